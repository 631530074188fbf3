/-
  Text of the reference.
-/
import Derived.Test.YtdjndoafnoidbaaDoorDText
import Derived.Test.YtdjndoafnoidbaaDoorDDig2
import Derived.Test.YtdjndoafnoidbaaDoorDRef1
namespace Go.Proofs.YtdjndoafnoidbaaDoor
namespace Dw
open Go.RowKit Dp Lw

theorem pad_itoa (v d : Nat) (h : d ≤ Lib.nDigits v) : padL (v : Int) d = Lib.itoa (v : Int) := by
  unfold padL
  rw [show d - (Lib.itoa (v : Int)).length = 0 by rw [itoa_nat, Lib.decDigits_length]; omega]
  rfl
theorem dec_itoa (v d : Nat) (hv : v < 10 ^ 18) (hd : 1 ≤ d) (hd1 : d ≤ 18) (h : d ≤ Lib.nDigits v) (w : World) :
    Calls Tryd.prog 51 #[.int .i64 (v : Int), .int .i64 (d : Int)] w fun e w' => e = .returned (.string ⟨(Lib.itoa (v : Int)).toArray⟩) ∧ w = w' := by
  have := decimal_any v d w hv hd hd1
  rwa [pad_itoa v d h] at this
/-- What a drawn region over a boxed designation needs of memory, without tables. -/
structure RS (w w' : World) : Prop where
  below : Below w.heap.size w w'
  lt : w.heap.size < w'.heap.size
theorem RS.call {w a b : World} (h : RS w a) (hb : Below a.heap.size a b) : RS w b := ⟨below_then h.below hb, Nat.lt_of_lt_of_le h.lt hb.size⟩
theorem RS.drew {w a : World} (h : RS w a) : RS w a.drew := h.call ((Below.refl _ a).drew)
theorem RS.box (w : World) (o : Obj) : RS w (w.alloc o) := ⟨(Below.refl _ w).alloc (Nat.le_refl _) _, by simp⟩
def RTextOk (n y h s c : Int) (w : World) (e : Ending) (w' : World) : Prop := e = .returned (.string ⟨(textG ⟨n, y, h, s, c⟩).toArray⟩) ∧ Below w.heap.size w w'
set_option maxRecDepth 100000 in
set_option maxHeartbeats 4000000 in
theorem rtext_num (n y h s c : Int) (w : World) (g : okD n y h s c) (hn : 0 < n) :
    Calls Tryd.prog 35 #[desigV n y h s c] w (RTextOk n y h s c w) := by
  have hbd := okD_bd g
  obtain ⟨v, rfl⟩ := Int.eq_ofNat_of_zero_le (show 0 ≤ n by omega)
  have I := Lib.hid (dec_itoa v 1 (by omega) (by omega) (by omega) (Lib.nDigits_pos v))
  have F := Lib.hid (show textG ⟨v, y, h, s, c⟩ = Lib.itoa v from if_pos hn)
  have hB := Lib.hid (RS.box w (.cells (desigC v y h s c).toArray 23)).below
  clear g hbd
  go_enter Tryd.func35, Tryd.ntmps35
  go_wp2_with fail
  go_at_call 51
  refine (I.out _).mono ?_
  rintro e w' ⟨rfl, rfl⟩
  go_wp2_with fail
  go_ret
  exact ⟨by rw [F.out]; rfl, hB⟩
set_option maxRecDepth 100000 in
set_option maxHeartbeats 4000000 in
theorem rtext_prov (y h s c : Int) (w : World) (h0 : 0 ≤ h) (h1 : h < 256) (s0 : 0 ≤ s) (s1 : s < 256) (g : okD 0 y h s c) :
    Calls Tryd.prog 35 #[desigV 0 y h s c] w (RTextOk 0 y h s c w) := by
  have hy : 1800 ≤ y ∧ y ≤ 2099 ∧ 0 ≤ c ∧ c ≤ 619 := by unfold okD at g; omega
  obtain ⟨y0, y1, c0, c1⟩ := hy
  obtain ⟨v, rfl⟩ := Int.eq_ofNat_of_zero_le (show 0 ≤ y by omega)
  obtain ⟨k, rfl⟩ := Int.eq_ofNat_of_zero_le c0
  have I := Lib.hid (dec_itoa v 4 (by omega) (by omega) (by omega) (Nat.le_of_eq (Lib.nDigits_unique 3 v (by omega) (by omega)).symm))
  have IC := Lib.hid (dec_itoa k 1 (by omega) (by omega) (by omega) (Lib.nDigits_pos k))
  have LH := Lib.hid (fun w => letter_any h w h0 h1)
  have LS := Lib.hid (fun w => letter_any s w s0 s1)
  have F : textG ⟨0, v, h, s, k⟩ = Lib.itoa v ++ [32] ++ [b8 h, b8 s] ++ (if 0 < (k : Int) then Lib.itoa k else []) := by
    rw [List.append_assoc (Lib.itoa v)]
    exact if_neg (by simp)
  have ly := Lib.itoa_length_le v (by omega) (by omega)
  have lc := Lib.itoa_length_le k (by omega) (by omega)
  generalize Lib.itoa (v : Int) = Y at *
  generalize Lib.itoa (k : Int) = K at *
  have F1 := Lib.hid (fun hc : 0 < k => show textG ⟨0, v, h, s, k⟩ = Y ++ 32 :: b8 h :: b8 s :: K by rw [F, if_pos (by omega)]; simp)
  have F2 := Lib.hid (fun hc : k = 0 => show textG ⟨0, v, h, s, k⟩ = Y ++ [32, b8 h, b8 s] by rw [F, if_neg (by omega)]; simp)
  clear F
  have r0 := RS.box w (.cells (desigC 0 v h s k).toArray 23)
  have z1 : (⟨Y.toArray⟩ : ByteArray).size + (⟨#[32]⟩ : ByteArray).size ≤ 9223372036854775807 := by rw [size_mk Y]; show Y.length + 1 ≤ _; omega
  have z2 : (⟨(Y ++ [32]).toArray⟩ : ByteArray).size + (⟨[b8 h].toArray⟩ : ByteArray).size ≤ 9223372036854775807 := by rw [size_mk, size_mk, List.length_append]; simp only [List.length_cons, List.length_nil]; omega
  have z3 : (⟨(Y ++ [32, b8 h]).toArray⟩ : ByteArray).size + (⟨[b8 s].toArray⟩ : ByteArray).size ≤ 9223372036854775807 := by rw [size_mk, size_mk, List.length_append]; simp only [List.length_cons, List.length_nil]; omega
  have z4 : (⟨(Y ++ [32, b8 h, b8 s]).toArray⟩ : ByteArray).size + (⟨K.toArray⟩ : ByteArray).size ≤ 9223372036854775807 := by rw [size_mk, size_mk, List.length_append]; simp only [List.length_cons, List.length_nil]; omega
  have a1 : ∀ w' : World, (Op.stringOp .add (⟨Y.toArray⟩ : ByteArray) ⟨#[32]⟩).run Tryd.prog w' = .ok (.string ⟨(Y ++ [32]).toArray⟩) w' := fun w' => by rw [run_string_add_sum (P := Tryd.prog) (w := w') _ _ z1]; exact congrArg (fun x => Result.ok (Value.string x) w') (str_app Y [32])
  have a2 : ∀ w' : World, (Op.stringOp .add (⟨(Y ++ [32]).toArray⟩ : ByteArray) ⟨[b8 h].toArray⟩).run Tryd.prog w' = .ok (.string ⟨(Y ++ [32, b8 h]).toArray⟩) w' := fun w' => by rw [run_string_add_sum (P := Tryd.prog) (w := w') _ _ z2, str_app, List.append_assoc]; rfl
  have a3 : ∀ w' : World, (Op.stringOp .add (⟨(Y ++ [32, b8 h]).toArray⟩ : ByteArray) ⟨[b8 s].toArray⟩).run Tryd.prog w' = .ok (.string ⟨(Y ++ [32, b8 h, b8 s]).toArray⟩) w' := fun w' => by rw [run_string_add_sum (P := Tryd.prog) (w := w') _ _ z3, str_app, List.append_assoc]; rfl
  have a4 : ∀ w' : World, (Op.stringOp .add (⟨(Y ++ [32, b8 h, b8 s]).toArray⟩ : ByteArray) ⟨K.toArray⟩).run Tryd.prog w' = .ok (.string ⟨(Y ++ [32, b8 h, b8 s] ++ K).toArray⟩) w' := fun w' => by rw [run_string_add_sum (P := Tryd.prog) (w := w') _ _ z4, str_app]
  clear z1 z2 z3 z4 g y0 y1 ly lc
  have r0d := r0.drew
  go_enter Tryd.func35, Tryd.ntmps35
  go_wp2_with fail
  go_region_held3 (fun w' => RS w w' ∧ w'.cell? ⟨w.heap.size, 1, none⟩ = some (.int .i64 v) ∧ w'.cell? ⟨w.heap.size, 2, none⟩ = some (.int .u8 h) ∧ w'.cell? ⟨w.heap.size, 3, none⟩ = some (.int .u8 s) ∧ w'.cell? ⟨w.heap.size, 4, none⟩ = some (.int .i64 k)) (first | go_keep | assumption)
    (first | (go_at_call 51; refine (I.out _).mono ?_; rintro e w2 ⟨rfl, rfl⟩) | (go_at_call 52; (first | (with_reducible refine (LH.out _).mono ?_) | (with_reducible refine (LS.out _).mono ?_)); rintro e w2 ⟨rfl, hb⟩; go_split_ands; have hk := RS.call (by assumption) hb; have q1 := (hb.cell (p := ⟨w.heap.size, 1, none⟩) (RS.lt (by assumption))).trans (by assumption); have q2 := (hb.cell (p := ⟨w.heap.size, 2, none⟩) (RS.lt (by assumption))).trans (by assumption); have q3 := (hb.cell (p := ⟨w.heap.size, 3, none⟩) (RS.lt (by assumption))).trans (by assumption); have q4 := (hb.cell (p := ⟨w.heap.size, 4, none⟩) (RS.lt (by assumption))).trans (by assumption); clear hb))
  go_split_ands
  by_cases hc : 0 < k
  · have hc' : (0 : Int) < k := by omega
    have FF := Lib.hid (F1.out hc)
    go_wp2_with (go_at_call 51; refine (IC.out _).mono ?_; rintro e w3 ⟨rfl, rfl⟩)
    go_ret
    exact ⟨by rw [FF.out]; rfl, RS.below (by assumption)⟩
  · have hc' : ¬ (0 : Int) < k := by omega
    have FF := Lib.hid (F2.out (by omega))
    go_wp2_with fail
    go_ret
    exact ⟨by rw [FF.out]; rfl, RS.below (by assumption)⟩
theorem rtext_any (n y h s c : Int) (w : World) (h0 : 0 ≤ h) (h1 : h < 256) (s0 : 0 ≤ s) (s1 : s < 256) (g : okD n y h s c) :
    Calls Tryd.prog 35 #[desigV n y h s c] w (RTextOk n y h s c w) := by
  by_cases hn : 0 < n
  · exact rtext_num n y h s c w g hn
  · have : n = 0 := by have := okD_bd g; omega
    subst this
    exact rtext_prov y h s c w h0 h1 s0 s1 g
set_option maxRecDepth 100000 in
set_option maxHeartbeats 4000000 in
theorem rText_ok (n y h s c : Int) (w : World) (h0 : 0 ≤ h) (h1 : h < 256) (s0 : 0 ≤ s) (s1 : s < 256) (g : okD n y h s c) :
    Calls Tryd.prog 17 #[desigV n y h s c] w (TextOk n y h s c w) := by
  have C := Lib.hid (rcheck_any n y h s c (w.alloc (.cells (desigC n y h s c).toArray 23)))
  rw [errC_ok g] at C
  have T := Lib.hid (fun w => rtext_any n y h s c w h0 h1 s0 s1 g)
  have r1 := rangeAt_new w (desigC n y h s c) 23
  have rs := RS.box w (.cells (desigC n y h s c).toArray 23)
  clear g
  go_enter Tryd.func17, Tryd.ntmps17
  go_wp2_with (refine wpList_load_mid rfl _ (.tmp 1) rfl w.heap.size 0 rfl (desigC n y h s c) _ r1 Tryd.underlying23 rfl info5d ?_)
  go_at_call 25
  refine C.out.mono ?_
  rintro e w1 ⟨rfl, hb1⟩
  have r2 := rangeAt_below r1 hb1 (by simp)
  have rs1 := rs.call hb1
  clear C r1 rs hb1
  go_wp2_with (refine wpList_load_mid rfl _ (.tmp 1) rfl w.heap.size 0 rfl (desigC n y h s c) _ r2 Tryd.underlying23 rfl info5d ?_)
  go_at_call 35
  refine (T.out _).mono ?_
  rintro e w2 ⟨rfl, hb2⟩
  have rs2 := rs1.call hb2
  clear T r2 rs1 hb2
  go_wp2_with fail
  go_ret2
  exact ⟨rfl, rs2.below⟩
set_option maxRecDepth 100000 in
set_option maxHeartbeats 4000000 in
theorem rText_no (n y h s c : Int) (w : World) (g : ¬ okD n y h s c) :
    Calls Tryd.prog 17 #[desigV n y h s c] w (TextNo w) := by
  have C := Lib.hid (rcheck_any n y h s c (w.alloc (.cells (desigC n y h s c).toArray 23)))
  rw [errC_no g] at C
  have r1 := rangeAt_new w (desigC n y h s c) 23
  have rs := RS.box w (.cells (desigC n y h s c).toArray 23)
  clear g
  go_enter Tryd.func17, Tryd.ntmps17
  go_wp2_with (refine wpList_load_mid rfl _ (.tmp 1) rfl w.heap.size 0 rfl (desigC n y h s c) _ r1 Tryd.underlying23 rfl info5d ?_)
  go_at_call 25
  refine C.out.mono ?_
  rintro e w1 ⟨rfl, hb1⟩
  have rs1 := rs.call hb1
  clear C r1 rs hb1
  go_wp2_with fail
  go_ret2
  exact ⟨rfl, rs1.below⟩
theorem Text_ok (n y h s c : Int) (w : World) (hT : Tb w) (h0 : 0 ≤ h) (h1 : h < 256) (s0 : 0 ≤ s) (s1 : s < 256) (g : okD n y h s c) :
    Calls Tryd.prog 16 #[desigV n y h s c] w (TextOk n y h s c w) := by
  by_cases hn : 0 < n
  · exact text_num n y h s c w hT h0 h1 s0 s1 g hn
  · exact text_prov n y h s c w hT h0 h1 s0 s1 g (by have := okD_bd g; omega)
end Dw
end Go.Proofs.YtdjndoafnoidbaaDoor
