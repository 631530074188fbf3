/-
  Text of package desig.
-/
import Derived.Test.YtdjndoafnoidbaaDoorDPad
import Derived.Test.YtdjndoafnoidbaaDoorDNext
import Derived.Deep.RegionHeld3
namespace Go.Proofs.YtdjndoafnoidbaaDoor
namespace Dw
open Go.RowKit Dp Lw

/-- What a drawn region of calls that make texts needs of memory. -/
structure TS (w w' : World) : Prop where
  tab : Tb w'
  below : Below w.heap.size w w'
  lt : w.heap.size < w'.heap.size
theorem TS.call {w a b : World} (h : TS w a) (hb : Below a.heap.size a b) : TS w b := ⟨h.tab.below hb, below_then h.below hb, Nat.lt_of_lt_of_le h.lt hb.size⟩
theorem TS.drew {w a : World} (h : TS w a) : TS w a.drew := h.call ((Below.refl _ a).drew)
theorem TS.drewN {w a : World} (h : TS w a) (n : Nat) : TS w (a.drewN n) := h.call (drewN_below2 (Below.refl _ a) n)
theorem TS.alloc {w a : World} (h : TS w a) (o : Obj) : TS w (a.alloc o) := h.call ((Below.refl _ a).alloc (Nat.le_refl _) _)
theorem TS.box {w : World} (h : Tb w) (o : Obj) : TS w (w.alloc o) := ⟨h.below ((Below.refl _ w).alloc (Nat.le_refl _) _), (Below.refl _ w).alloc (Nat.le_refl _) _, by simp⟩
theorem wpAnyH_mono {P : Program} {md : Region.Mode} {ops : Array Oper} {Q : Exit → Act → World → Prop} {S S' : World → Prop} (hs : ∀ w, S' w → S w) :
    ∀ (fuel : Nat) (listed : Array Bool) (a : Act) (w : World), wpAnyH P md ops Q S' fuel listed a w → wpAnyH P md ops Q S fuel listed a w
  | 0, _, _, _, h => h
  | fuel + 1, _, _, _, h => ⟨h.1, fun i hi => wpOp_mono (fun a' w' h' => ⟨hs _ h'.1, wpAnyH_mono hs fuel _ a' w' h'.2⟩) (h.2 i hi)⟩
def TextOk (n y h s c : Int) (w : World) (e : Ending) (w' : World) : Prop := e = .returned (.tuple #[.string ⟨(textG ⟨n, y, h, s, c⟩).toArray⟩, .int .i64 0]) ∧ Below w.heap.size w w'
def TextNo (w : World) (e : Ending) (w' : World) : Prop := e = .returned (.tuple #[.string ⟨#[]⟩, .int .i64 8]) ∧ Below w.heap.size w w'
set_option maxRecDepth 100000 in
set_option maxHeartbeats 4000000 in
theorem text_no (n y h s c : Int) (w : World) (hT : Tb w) (h0 : 0 ≤ h) (h1 : h < 256) (s0 : 0 ≤ s) (s1 : s < 256) (g : ¬ okD n y h s c) :
    Calls Tryd.prog 16 #[desigV n y h s c] w (TextNo w) := by
  have C := Lib.hid (check_any n y h s c (w.alloc (.cells (desigC n y h s c).toArray 23)) (hT.ord.alloc _) h0 h1 s0 s1)
  rw [errC_no g] at C
  have r1 := rangeAt_new w (desigC n y h s c) 23
  have hb0 : Below w.heap.size w (w.alloc (.cells (desigC n y h s c).toArray 23)) := (Below.refl w.heap.size w).alloc (Nat.le_refl _) _
  clear g hT
  go_enter Tryd.func16, Tryd.ntmps16
  go_wp2_with (refine wpList_load_mid rfl _ (.tmp 1) rfl w.heap.size 0 rfl (desigC n y h s c) _ r1 Tryd.underlying23 rfl info5d ?_)
  go_at_call 24
  refine C.out.mono ?_
  rintro e w1 ⟨rfl, hb1⟩
  have hB := below_then hb0 hb1
  clear C r1 hb0 hb1
  go_wp2_with fail
  go_ret2
  exact ⟨rfl, hB⟩
set_option maxRecDepth 100000 in
set_option maxHeartbeats 4000000 in
theorem text_num (n y h s c : Int) (w : World) (hT : Tb w) (h0 : 0 ≤ h) (h1 : h < 256) (s0 : 0 ≤ s) (s1 : s < 256) (g : okD n y h s c) (hn : 0 < n) :
    Calls Tryd.prog 16 #[desigV n y h s c] w (TextOk n y h s c w) := by
  have C := Lib.hid (check_any n y h s c (w.alloc (.cells (desigC n y h s c).toArray 23)) (hT.ord.alloc _) h0 h1 s0 s1)
  rw [errC_ok g] at C
  have hbd := okD_bd g
  have I := Lib.hid (fun w' (hw : Tb w') => itoa_any n w' hw (by omega) (by omega))
  have F := Lib.hid (show textG ⟨n, y, h, s, c⟩ = Lib.itoa n from if_pos hn)
  have r1 := rangeAt_new w (desigC n y h s c) 23
  have hts := TS.box hT (.cells (desigC n y h s c).toArray 23)
  clear g hT hbd
  go_enter Tryd.func16, Tryd.ntmps16
  go_wp2_with (refine wpList_load_mid rfl _ (.tmp 1) rfl w.heap.size 0 rfl (desigC n y h s c) _ r1 Tryd.underlying23 rfl info5d ?_)
  go_at_call 24
  refine C.out.mono ?_
  rintro e w1 ⟨rfl, hb1⟩
  have ht1 := hts.call hb1
  have k0 : w1.cell? ⟨w.heap.size, 0, none⟩ = some (.int .i64 n) := rangeAt_below r1 hb1 (by simp) 0 _ rfl
  clear C r1 hts hb1
  go_wp2_with fail
  go_at_call 34
  refine (I.out _ ht1.tab).mono ?_
  rintro e w2 ⟨rfl, hb2⟩
  have ht2 := ht1.call hb2
  clear I hb2 ht1
  go_wp2_with fail
  go_ret2
  exact ⟨by rw [F.out]; rfl, ht2.below⟩
set_option maxRecDepth 100000 in
set_option maxHeartbeats 4000000 in
theorem text_prov (n y h s c : Int) (w : World) (hT : Tb w) (h0 : 0 ≤ h) (h1 : h < 256) (s0 : 0 ≤ s) (s1 : s < 256) (g : okD n y h s c) (hn : n = 0) :
    Calls Tryd.prog 16 #[desigV n y h s c] w (TextOk n y h s c w) := by
  subst hn
  have C := Lib.hid (check_any 0 y h s c (w.alloc (.cells (desigC 0 y h s c).toArray 23)) (hT.ord.alloc _) h0 h1 s0 s1)
  rw [errC_ok g] at C
  have hy : 1800 ≤ y ∧ y ≤ 2099 ∧ 0 ≤ c ∧ c ≤ 619 := by unfold okD at g; omega
  obtain ⟨y0, y1, c0, c1⟩ := hy
  have I := Lib.hid (fun w' (hw : TS w w') => itoa_any y w' hw.tab (by omega) (by omega))
  have IC := Lib.hid (fun w' (hw : TS w w') => itoa_any c w' hw.tab (by omega) (by omega))
  have F : textG ⟨0, y, h, s, c⟩ = Lib.itoa y ++ [32] ++ [b8 h, b8 s] ++ (if 0 < c then Lib.itoa c else []) := by
    rw [List.append_assoc (Lib.itoa y)]
    exact if_neg (by simp)
  have ly := Lib.itoa_length_le y (by omega) (by omega)
  have lc := Lib.itoa_length_le c (by omega) (by omega)
  generalize Lib.itoa y = Y at *
  generalize Lib.itoa c = K at *
  have F1 := Lib.hid (fun hc : 0 < c => show textG ⟨0, y, h, s, c⟩ = Y ++ 32 :: b8 h :: b8 s :: K by rw [F, if_pos hc]; simp)
  have F2 := Lib.hid (fun hc : c ≤ 0 => show textG ⟨0, y, h, s, c⟩ = Y ++ [32, b8 h, b8 s] by rw [F, if_neg (by omega)]; simp)
  clear F
  have z4 : (⟨(Y ++ [32, b8 h, b8 s]).toArray⟩ : ByteArray).size + (⟨K.toArray⟩ : ByteArray).size ≤ 9223372036854775807 := by rw [size_mk, size_mk, List.length_append]; simp only [List.length_cons, List.length_nil]; omega
  have a4 : ∀ w' : World, (Op.stringOp .add (⟨(Y ++ [32, b8 h, b8 s]).toArray⟩ : ByteArray) ⟨K.toArray⟩).run Tryd.prog w' = .ok (.string ⟨(Y ++ [32, b8 h, b8 s] ++ K).toArray⟩) w' := fun w' => by rw [run_string_add_sum (P := Tryd.prog) (w := w') _ _ z4, str_app]
  clear z4
  have r1 := rangeAt_new w (desigC 0 y h s c) 23
  have hts := TS.box hT (.cells (desigC 0 y h s c).toArray 23)
  have sa := str_app Y [32]
  have sb := str_app (Y ++ [32]) [b8 h, b8 s]
  have z1 : (⟨Y.toArray⟩ : ByteArray).size + (⟨#[32]⟩ : ByteArray).size ≤ 9223372036854775807 := by rw [size_mk Y]; show Y.length + 1 ≤ _; omega
  have z2 : (⟨(Y ++ [32]).toArray⟩ : ByteArray).size + (⟨[b8 h, b8 s].toArray⟩ : ByteArray).size ≤ 9223372036854775807 := by rw [size_mk, size_mk, List.length_append]; simp only [List.length_cons, List.length_nil]; omega
  have a2 : ∀ w' : World, (Op.stringOp .add (⟨Y.toArray⟩ : ByteArray) ⟨#[32]⟩).run Tryd.prog w' = .ok (.string ⟨(Y ++ [32]).toArray⟩) w' := fun w' => by rw [run_string_add_sum (P := Tryd.prog) (w := w') _ _ z1]; exact congrArg (fun x => Result.ok (Value.string x) w') sa
  have a3 : ∀ w' : World, (Op.stringOp .add (⟨(Y ++ [32]).toArray⟩ : ByteArray) ⟨[b8 h, b8 s].toArray⟩).run Tryd.prog w' = .ok (.string ⟨(Y ++ [32] ++ [b8 h, b8 s]).toArray⟩) w' := fun w' => by rw [run_string_add_sum (P := Tryd.prog) (w := w') _ _ z2, sb]
  have cvg := fun (W : World) (b : Nat) (g0 : W.cell? ⟨b, 0, none⟩ = some (.int .u8 h)) (g1 : W.cell? ⟨b, 1, none⟩ = some (.int .u8 s)) => conv2 W h s 2 h0 h1 s0 s1 b g0 g1
  have cv := fun (W : World) => conv2 (W.alloc (.cells #[.int .u8 h, .int .u8 s] 5)) h s 2 h0 h1 s0 s1 W.heap.size (World.cell?_alloc_mark W _ _ _ 0) (World.cell?_alloc_mark W _ _ _ 1)
  have cvd := fun (W : World) => conv2 (W.alloc (.cells #[.int .u8 h, .int .u8 s] 5)).drew h s 2 h0 h1 s0 s1 W.heap.size (World.cell?_alloc_mark W _ _ _ 0) (World.cell?_alloc_mark W _ _ _ 1)
  clear g hT z1 z2 sa sb
  go_enter Tryd.func16, Tryd.ntmps16
  go_wp2_with (refine wpList_load_mid rfl _ (.tmp 1) rfl w.heap.size 0 rfl (desigC 0 y h s c) _ r1 Tryd.underlying23 rfl info5d ?_)
  go_at_call 24
  refine C.out.mono ?_
  rintro e w1 ⟨rfl, hb1⟩
  have ht1 := hts.call hb1
  have k0 : w1.cell? ⟨w.heap.size, 0, none⟩ = some (.int .i64 0) := rangeAt_below r1 hb1 (by simp) 0 _ rfl
  have k1 : w1.cell? ⟨w.heap.size, 1, none⟩ = some (.int .i64 y) := rangeAt_below r1 hb1 (by simp) 1 _ rfl
  have k2 : w1.cell? ⟨w.heap.size, 2, none⟩ = some (.int .u8 h) := rangeAt_below r1 hb1 (by simp) 2 _ rfl
  have k3 : w1.cell? ⟨w.heap.size, 3, none⟩ = some (.int .u8 s) := rangeAt_below r1 hb1 (by simp) 3 _ rfl
  have k4 : w1.cell? ⟨w.heap.size, 4, none⟩ = some (.int .i64 c) := rangeAt_below r1 hb1 (by simp) 4 _ rfl
  have ht1d := ht1.drew
  have lt1 := ht1.lt
  have I0 := I.out w1.drew ht1.drew
  have I0 : Calls Tryd.prog 34 #[.int .i64 y] w1.drew fun e w2 => e = .returned (.string ⟨Y.toArray⟩) ∧ TS w w2 ∧ w2.cell? ⟨w.heap.size, 1, none⟩ = some (.int .i64 y) ∧ w2.cell? ⟨w.heap.size, 2, none⟩ = some (.int .u8 h) ∧ w2.cell? ⟨w.heap.size, 3, none⟩ = some (.int .u8 s) ∧ w2.cell? ⟨w.heap.size, 4, none⟩ = some (.int .i64 c) :=
    I0.mono fun e w2 ⟨he, hb⟩ => ⟨he, ht1.drew.call hb, (hb.cell (p := ⟨w.heap.size, 1, none⟩) lt1).trans k1, (hb.cell (p := ⟨w.heap.size, 2, none⟩) lt1).trans k2, (hb.cell (p := ⟨w.heap.size, 3, none⟩) lt1).trans k3, (hb.cell (p := ⟨w.heap.size, 4, none⟩) lt1).trans k4⟩
  have I1 := I.out (w1.alloc (.cells #[.int .u8 h, .int .u8 s] 5)).drew (ht1.alloc _).drew
  have lt2 : w.heap.size < (w1.alloc (.cells #[.int .u8 h, .int .u8 s] 5)).drew.heap.size := (ht1.alloc _).drew.lt
  have lt3 : w1.heap.size < (w1.alloc (.cells #[.int .u8 h, .int .u8 s] 5)).drew.heap.size := by show _ < (w1.alloc _).heap.size; simp
  have qa : ∀ j o, j < 5 → (w1.alloc o).drew.cell? ⟨w.heap.size, j, none⟩ = w1.cell? ⟨w.heap.size, j, none⟩ := fun j o _ => World.cell?_alloc_past o _ _ lt1
  have I1 : Calls Tryd.prog 34 #[.int .i64 y] (w1.alloc (.cells #[.int .u8 h, .int .u8 s] 5)).drew fun e w' => e = .returned (.string ⟨Y.toArray⟩) ∧ TS w w' ∧ w'.cell? ⟨w.heap.size, 1, none⟩ = some (.int .i64 y) ∧ w'.cell? ⟨w.heap.size, 2, none⟩ = some (.int .u8 h) ∧ w'.cell? ⟨w.heap.size, 3, none⟩ = some (.int .u8 s) ∧ w'.cell? ⟨w.heap.size, 4, none⟩ = some (.int .i64 c) ∧ w'.cell? ⟨w1.heap.size, 0, none⟩ = some (.int .u8 h) ∧ w'.cell? ⟨w1.heap.size, 1, none⟩ = some (.int .u8 s) :=
    I1.mono fun e w2 ⟨he, hb⟩ => ⟨he, (ht1.alloc _).drew.call hb, (hb.cell (p := ⟨w.heap.size, 1, none⟩) lt2).trans ((qa 1 _ (by omega)).trans k1), (hb.cell (p := ⟨w.heap.size, 2, none⟩) lt2).trans ((qa 2 _ (by omega)).trans k2), (hb.cell (p := ⟨w.heap.size, 3, none⟩) lt2).trans ((qa 3 _ (by omega)).trans k3), (hb.cell (p := ⟨w.heap.size, 4, none⟩) lt2).trans ((qa 4 _ (by omega)).trans k4), (hb.cell (p := ⟨w1.heap.size, 0, none⟩) lt3).trans (World.cell?_alloc_mark w1 _ _ _ 0), (hb.cell (p := ⟨w1.heap.size, 1, none⟩) lt3).trans (World.cell?_alloc_mark w1 _ _ _ 1)⟩
  clear qa
  clear C r1 hts hb1 I
  go_wp2_with fail
  refine wp_region_held_drew (S := fun w' => TS w w' ∧ w'.cell? ⟨w.heap.size, 1, none⟩ = some (.int .i64 y) ∧ w'.cell? ⟨w.heap.size, 2, none⟩ = some (.int .u8 h) ∧ w'.cell? ⟨w.heap.size, 3, none⟩ = some (.int .u8 s) ∧ w'.cell? ⟨w.heap.size, 4, none⟩ = some (.int .i64 c)) (by kernel_rfl) ⟨ht1d, k1, k2, k3, k4⟩ (fun hHeld => ?_)
  refine wpAnyH_take (i := 0) (v := ?_) rfl (by kernel_rfl) (by kernel_rfl) (by kernel_rfl) (fun _ _ _ h => h) (Or.inl ⟨by rfl, ?_⟩) (by assumption) ?_
  rotate_left
  · (intro w hSw; (try dsimp only at hSw); go_simp; try with_reducible rfl)
  try simp only [Act.put, List.setIfInBounds_toArray, List.set_cons_zero, List.set_cons_succ]
  refine wpAnyH_take (i := 1) (v := ?_) rfl (by kernel_rfl) (by kernel_rfl) (by kernel_rfl) (fun _ _ _ h => h) (Or.inl ⟨by rfl, ?_⟩) (by assumption) ?_
  rotate_left
  · (intro w hSw; (try dsimp only at hSw); go_simp; try with_reducible rfl)
  try simp only [Act.put, List.setIfInBounds_toArray, List.set_cons_zero, List.set_cons_succ]
  refine wpAnyH_take (i := 4) (v := ?_) rfl (by kernel_rfl) (by kernel_rfl) (by kernel_rfl) (fun _ _ _ h => h) (Or.inl ⟨by rfl, ?_⟩) (by assumption) ?_
  rotate_left
  · (intro w hSw; (try dsimp only at hSw); go_simp; try with_reducible rfl)
  try simp only [Act.put, List.setIfInBounds_toArray, List.set_cons_zero, List.set_cons_succ]
  refine wpAnyH_take (i := 5) (v := ?_) rfl (by kernel_rfl) (by kernel_rfl) (by kernel_rfl) (fun _ _ _ h => h) (Or.inl ⟨by rfl, ?_⟩) (by assumption) ?_
  rotate_left
  · (intro w hSw; (try dsimp only at hSw); go_simp; try with_reducible rfl)
  try simp only [Act.put, List.setIfInBounds_toArray, List.set_cons_zero, List.set_cons_succ]
  refine wpAnyH_take (i := 6) (v := ?_) rfl (by kernel_rfl) (by kernel_rfl) (by kernel_rfl) (fun _ _ _ h => h) (Or.inl ⟨by rfl, ?_⟩) (by assumption) ?_
  rotate_left
  · (intro w hSw; (try dsimp only at hSw); go_simp; try with_reducible rfl)
  try simp only [Act.put, List.setIfInBounds_toArray, List.set_cons_zero, List.set_cons_succ]
  refine wpAnyH_take (i := 7) (v := ?_) rfl (by kernel_rfl) (by kernel_rfl) (by kernel_rfl) (fun _ _ _ h => h) (Or.inl ⟨by rfl, ?_⟩) (by assumption) ?_
  rotate_left
  · (intro w hSw; (try dsimp only at hSw); go_simp; try with_reducible rfl)
  try simp only [Act.put, List.setIfInBounds_toArray, List.set_cons_zero, List.set_cons_succ]
  refine wpAnyH_ready (rs := [2, 8]) (by kernel_rfl) (by simp) ?_
  refine AllReadyH.cons rfl (fun K' hK => ?_) (AllReadyH.cons rfl (fun K' hK => ?_) AllReadyH.nil)
  · go_simp
    refine I0.mono ?_
    rintro e w2 ⟨rfl, ht2, q1, q2, q3, q4⟩
    refine hK.out _ _ ⟨ht2, q1, q2, q3, q4⟩ (fun hHeld => ?_)
    clear hK
    try simp only [Act.put, List.setIfInBounds_toArray, List.set_cons_zero, List.set_cons_succ]
    refine wpAnyH_take (i := 3) (v := ?_) rfl (by kernel_rfl) (by kernel_rfl) (by kernel_rfl) (fun _ _ _ h => h) (Or.inl ⟨by rfl, ?_⟩) (by assumption) ?_
    rotate_left
    · (intro w hSw; (try dsimp only at hSw); go_simp; try with_reducible rfl)
    try simp only [Act.put, List.setIfInBounds_toArray, List.set_cons_zero, List.set_cons_succ]
    refine wpAnyH_ready (rs := [8]) (by kernel_rfl) (by simp) ?_
    refine AllReadyH.cons rfl (fun K' hK => ?_) AllReadyH.nil
    go_simp
    have qa : ∀ j o, j < 5 → (w2.alloc o).cell? ⟨w.heap.size, j, none⟩ = w2.cell? ⟨w.heap.size, j, none⟩ := fun j o _ => World.cell?_alloc_past o _ _ ht2.lt
    refine hK.out _ _ ⟨ht2.alloc _, (qa 1 _ (by omega)).trans q1, (qa 2 _ (by omega)).trans q2, (qa 3 _ (by omega)).trans q3, (qa 4 _ (by omega)).trans q4⟩ (fun hHeld => ?_)
    clear hK qa
    refine wpAnyH_mono (S' := fun w' => (TS w w' ∧ w'.cell? ⟨w.heap.size, 1, none⟩ = some (.int .i64 y) ∧ w'.cell? ⟨w.heap.size, 2, none⟩ = some (.int .u8 h) ∧ w'.cell? ⟨w.heap.size, 3, none⟩ = some (.int .u8 s) ∧ w'.cell? ⟨w.heap.size, 4, none⟩ = some (.int .i64 c)) ∧ w'.cell? ⟨w2.heap.size, 0, none⟩ = some (.int .u8 h) ∧ w'.cell? ⟨w2.heap.size, 1, none⟩ = some (.int .u8 s)) (fun _ h => h.1) _ _ _ _ ?_
    have hHeld2 := And.intro hHeld (And.intro (World.cell?_alloc_mark w2 #[.int .u8 h, .int .u8 s] 5 (0, 0) 0) (World.cell?_alloc_mark w2 #[.int .u8 h, .int .u8 s] 5 (0, 0) 1))
    try simp only [Act.put, List.setIfInBounds_toArray, List.set_cons_zero, List.set_cons_succ]
    refine wpAnyH_take (i := 9) (v := ?_) rfl (by kernel_rfl) (by kernel_rfl) (by kernel_rfl) (fun _ _ _ h => h) (Or.inl ⟨by rfl, ?_⟩) hHeld2 ?_
    rotate_left
    · (intro w hSw; (try dsimp only at hSw); obtain ⟨_, g0, g1⟩ := hSw; have cc := cvg _ _ g0 g1; go_simp; try with_reducible rfl)
    try simp only [Act.put, List.setIfInBounds_toArray, List.set_cons_zero, List.set_cons_succ]
    refine wpAnyH_take (i := 10) (v := ?_) rfl (by kernel_rfl) (by kernel_rfl) (by kernel_rfl) (fun _ _ _ h => h) (Or.inl ⟨by rfl, ?_⟩) hHeld2 ?_
    rotate_left
    · (intro w hSw; (try dsimp only at hSw); go_simp; try with_reducible rfl)
    try simp only [Act.put, List.setIfInBounds_toArray, List.set_cons_zero, List.set_cons_succ]
    refine wpAnyH_take (i := 11) (v := ?_) rfl (by kernel_rfl) (by kernel_rfl) (by kernel_rfl) (fun _ _ _ h => h) (Or.inl ⟨by rfl, ?_⟩) hHeld2 ?_
    rotate_left
    · (intro w hSw; (try dsimp only at hSw); go_simp; try with_reducible rfl)
    try simp only [Act.put, List.setIfInBounds_toArray, List.set_cons_zero, List.set_cons_succ]
    refine wpAnyH_done (by kernel_rfl) ?_ _
    have TT := hHeld.1
    have k4 := hHeld.2.2.2.2
    clear hHeld hHeld2
    by_cases hc : 0 < c
    · have FF := Lib.hid (F1.out hc)
      go_wp2_with (go_at_call 34; refine (IC.out _ TT).mono ?_; rintro e w3 ⟨rfl, hb3⟩)
      have hB := (TT.call hb3).below
      go_ret2
      exact ⟨by rw [FF.out]; rfl, hB⟩
    · have FF := Lib.hid (F2.out (by omega))
      have hB := TT.below
      go_wp2_with fail
      go_ret2
      exact ⟨by rw [FF.out]; rfl, hB⟩
  · go_simp
    have qa : ∀ j o, j < 5 → (w1.alloc o).cell? ⟨w.heap.size, j, none⟩ = w1.cell? ⟨w.heap.size, j, none⟩ := fun j o _ => World.cell?_alloc_past o _ _ lt1
    refine hK.out _ _ ⟨(ht1.alloc _).drew, (qa 1 _ (by omega)).trans k1, (qa 2 _ (by omega)).trans k2, (qa 3 _ (by omega)).trans k3, (qa 4 _ (by omega)).trans k4⟩ (fun hHeld => ?_)
    clear hK qa
    refine wpAnyH_mono (S' := fun w' => (TS w w' ∧ w'.cell? ⟨w.heap.size, 1, none⟩ = some (.int .i64 y) ∧ w'.cell? ⟨w.heap.size, 2, none⟩ = some (.int .u8 h) ∧ w'.cell? ⟨w.heap.size, 3, none⟩ = some (.int .u8 s) ∧ w'.cell? ⟨w.heap.size, 4, none⟩ = some (.int .i64 c)) ∧ w'.cell? ⟨w1.heap.size, 0, none⟩ = some (.int .u8 h) ∧ w'.cell? ⟨w1.heap.size, 1, none⟩ = some (.int .u8 s)) (fun _ h => h.1) _ _ _ _ ?_
    have hHeld2 := And.intro hHeld (And.intro (World.cell?_alloc_mark w1 #[.int .u8 h, .int .u8 s] 5 (0, 0) 0) (World.cell?_alloc_mark w1 #[.int .u8 h, .int .u8 s] 5 (0, 0) 1))
    try simp only [Act.put, List.setIfInBounds_toArray, List.set_cons_zero, List.set_cons_succ]
    refine wpAnyH_take (i := 9) (v := ?_) rfl (by kernel_rfl) (by kernel_rfl) (by kernel_rfl) (fun _ _ _ h => h) (Or.inl ⟨by rfl, ?_⟩) hHeld2 ?_
    rotate_left
    · (intro w hSw; (try dsimp only at hSw); obtain ⟨_, g0, g1⟩ := hSw; have cc := cvg _ _ g0 g1; go_simp; try with_reducible rfl)
    try simp only [Act.put, List.setIfInBounds_toArray, List.set_cons_zero, List.set_cons_succ]
    refine wpAnyH_ready (rs := [2]) (by kernel_rfl) (by simp) ?_
    refine AllReadyH.cons rfl (fun K' hK => ?_) AllReadyH.nil
    clear hHeld hHeld2
    go_simp
    refine I1.mono ?_
    rintro e w2 ⟨rfl, ht2, q1, q2, q3, q4, g0, g1⟩
    refine hK.out _ _ ⟨⟨ht2, q1, q2, q3, q4⟩, g0, g1⟩ (fun hHeld2 => ?_)
    clear hK
    have hHeld := hHeld2.1
    try simp only [Act.put, List.setIfInBounds_toArray, List.set_cons_zero, List.set_cons_succ]
    refine wpAnyH_take (i := 3) (v := ?_) rfl (by kernel_rfl) (by kernel_rfl) (by kernel_rfl) (fun _ _ _ h => h) (Or.inl ⟨by rfl, ?_⟩) hHeld2 ?_
    rotate_left
    · (intro w hSw; (try dsimp only at hSw); go_simp; try with_reducible rfl)
    try simp only [Act.put, List.setIfInBounds_toArray, List.set_cons_zero, List.set_cons_succ]
    refine wpAnyH_take (i := 10) (v := ?_) rfl (by kernel_rfl) (by kernel_rfl) (by kernel_rfl) (fun _ _ _ h => h) (Or.inl ⟨by rfl, ?_⟩) hHeld2 ?_
    rotate_left
    · (intro w hSw; (try dsimp only at hSw); go_simp; try with_reducible rfl)
    try simp only [Act.put, List.setIfInBounds_toArray, List.set_cons_zero, List.set_cons_succ]
    refine wpAnyH_take (i := 11) (v := ?_) rfl (by kernel_rfl) (by kernel_rfl) (by kernel_rfl) (fun _ _ _ h => h) (Or.inl ⟨by rfl, ?_⟩) hHeld2 ?_
    rotate_left
    · (intro w hSw; (try dsimp only at hSw); go_simp; try with_reducible rfl)
    try simp only [Act.put, List.setIfInBounds_toArray, List.set_cons_zero, List.set_cons_succ]
    refine wpAnyH_done (by kernel_rfl) ?_ _
    have TT := hHeld.1
    have k4 := hHeld.2.2.2.2
    clear hHeld hHeld2
    by_cases hc : 0 < c
    · have FF := Lib.hid (F1.out hc)
      go_wp2_with (go_at_call 34; refine (IC.out _ TT).mono ?_; rintro e w3 ⟨rfl, hb3⟩)
      have hB := (TT.call hb3).below
      go_ret2
      exact ⟨by rw [FF.out]; rfl, hB⟩
    · have FF := Lib.hid (F2.out (by omega))
      have hB := TT.below
      go_wp2_with fail
      go_ret2
      exact ⟨by rw [FF.out]; rfl, hB⟩
end Dw
end Go.Proofs.YtdjndoafnoidbaaDoor
