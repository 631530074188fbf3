/-
  Pack of the reference.
-/
import Derived.Test.YtdjndoafnoidbaaDoorDPack2
import Derived.IntWalk
namespace Go.Proofs.YtdjndoafnoidbaaDoor
namespace Dw
open Go.RowKit Dp Lw

theorem digitI (i : Int) (h0 : 0 ≤ i) (h1 : i < 62) (w : World) : Calls Tryd.prog 55 #[.int .i64 i] w fun e w' => e = .returned (.string ⟨[dig62 i.toNat].toArray⟩) ∧ w = w' := by
  obtain ⟨k, rfl⟩ := Int.eq_ofNat_of_zero_le h0
  rw [Int.toNat_natCast]
  exact digit_any k w (by omega)
theorem addL (a b : List UInt8) (ha : a.length ≤ 1000) (hb : b.length ≤ 1000) (w : World) : (Op.stringOp .add (⟨a.toArray⟩ : ByteArray) ⟨b.toArray⟩).run Tryd.prog w = .ok (.string ⟨(a ++ b).toArray⟩) w := by
  rw [run_string_add_sum (P := Tryd.prog) (w := w) _ _ (by rw [size_mk, size_mk]; omega), str_app]
theorem wrap_div (n d : Int) (h0 : 0 ≤ n) (h1 : n ≤ 1000000000000000000) (hd : 0 < d) : IntKind.i64.wrap (n.tdiv d) = n / d := by
  rw [Int.tdiv_eq_ediv_of_nonneg h0]
  have h2 := Int.ediv_nonneg h0 (Int.le_of_lt hd)
  have h3 := Int.ediv_le_self d h0
  exact IntWalk.i64_in _ (by omega)
theorem tmod_mod (n d : Int) (h0 : 0 ≤ n) : n.tmod d = n % d := Int.tmod_eq_emod_of_nonneg h0
theorem wrap_mod (n d : Int) (hd : 0 < d) (hd1 : d ≤ 1000000000000000000) : IntKind.i64.wrap (n % d) = n % d := by
  have h2 := Int.emod_nonneg n (show d ≠ 0 by omega)
  have h3 := Int.emod_lt_of_pos n hd
  exact IntWalk.i64_in _ (by omega)
theorem slice_ijk (y K : Int) (eK : y / 100 - 18 = K) (x : UInt8) (hx : b8 (y / 100 + 55) = x) (h0 : 0 ≤ K) (h1 : K ≤ 2) (w : World) :
    (Instr.slice 9 (.string ⟨#[73, 74, 75]⟩) (some (.int .i64 K)) (some (.int .i64 (K + 1))) none).run Tryd.prog w = .ok (.string ⟨[x].toArray⟩) w := by
  have key : ∀ k : Nat, k < 3 → (⟨#[73, 74, 75]⟩ : ByteArray).extract k (k + 1) = ⟨[b8 ((k : Int) + 73)].toArray⟩ := by decide +kernel
  obtain ⟨k, rfl⟩ := Int.eq_ofNat_of_zero_le h0
  have hs : (⟨#[73, 74, 75]⟩ : ByteArray).size = 3 := rfl
  have e : y / 100 + 55 = (k : Int) + 73 := by omega
  rw [← hx, e, ← key k (by omega), run_slice_string_if (P := Tryd.prog) (w := w) 9 _ .i64 .i64 (k : Int) ((k : Int) + 1) Tryd.underlying9, if_pos ⟨by omega, by rw [hs]; omega⟩, if_pos ⟨by omega, by omega⟩, Int.toNat_natCast, show ((k : Int) + 1).toNat = k + 1 by omega]
def RPackOk (n y h s c : Int) (w : World) (e : Ending) (w' : World) : Prop := e = .returned (.string ⟨(packG ⟨n, y, h, s, c⟩).toArray⟩) ∧ Below w.heap.size w w'
theorem packG_bigR (m y h s c : Int) (h0 : 0 ≤ m) (h1 : m ≤ 14776335) : packG ⟨m + 620000, y, h, s, c⟩ = [126, dig62 (m / 238328).toNat, dig62 (m / 3844 % 62).toNat, dig62 (m / 62 % 62).toNat, dig62 (m % 62).toNat] := by
  rw [packG_big m y h s c h0 h1, show m / 62 / 62 / 62 = m / 238328 by omega, show m / 62 / 62 = m / 3844 by omega]
set_option maxRecDepth 100000 in
set_option maxHeartbeats 8000000 in
theorem rpack_big (m y h s c : Int) (w : World) (hm : 0 ≤ m) (m1 : m ≤ 14776335) :
    Calls Tryd.prog 40 #[desigV (m + 620000) y h s c] w (RPackOk (m + 620000) y h s c w) := by
  have F := packG_bigR m y h s c hm m1
  have D1 := Lib.hid (fun w => digitI (m / 238328) (by omega) (by omega) w)
  have D2 := Lib.hid (fun w => digitI (m / 3844 % 62) (by omega) (by omega) w)
  have D3 := Lib.hid (fun w => digitI (m / 62 % 62) (by omega) (by omega) w)
  have D4 := Lib.hid (fun w => digitI (m % 62) (by omega) (by omega) w)
  generalize dig62 (m / 238328).toNat = a at *
  generalize dig62 (m / 3844 % 62).toNat = b at *
  generalize dig62 (m / 62 % 62).toNat = d at *
  generalize dig62 (m % 62).toNat = e at *
  have F := Lib.hid F
  have a1 := addL [126] [a] (by simp) (by simp)
  have a2 := addL [126, a] [b] (by simp) (by simp)
  have a3 := addL [126, a, b] [d] (by simp) (by simp)
  have a4 := addL [126, a, b, d] [e] (by simp) (by simp)
  have e1 : m + 620000 - 620000 = m := by omega
  have e2 : (620000 : Int) ≤ m + 620000 := by omega
  have hB := Lib.hid (RS.box w (.cells (desigC (m + 620000) y h s c).toArray 23)).below
  go_enter Tryd.func40, Tryd.ntmps40
  go_wp2_with fail
  go_at_call 55
  refine (D1.out _).mono ?_
  rintro e w' ⟨rfl, rfl⟩
  go_wp2_with fail
  refine (D2.out _).mono ?_
  rintro e w' ⟨rfl, rfl⟩
  go_wp2_with fail
  refine (D3.out _).mono ?_
  rintro e w' ⟨rfl, rfl⟩
  go_wp2_with fail
  refine (D4.out _).mono ?_
  rintro e w' ⟨rfl, rfl⟩
  go_wp2_with fail
  go_ret
  exact ⟨by rw [F.out]; rfl, hB.out⟩
theorem decI (n : Int) (d : Nat) (w : World) (h0 : 0 ≤ n) (h1 : n < 10 ^ 18) (hd : 1 ≤ d) (hd1 : d ≤ 18) (D : Int) (hD : D = d) :
    Calls Tryd.prog 51 #[.int .i64 n, .int .i64 D] w fun e w' => e = .returned (.string ⟨(padL n d).toArray⟩) ∧ w = w' := by
  subst hD
  obtain ⟨k, rfl⟩ := Int.eq_ofNat_of_zero_le h0
  exact decimal_any k d w (by omega) hd hd1
set_option maxRecDepth 100000 in
set_option maxHeartbeats 8000000 in
theorem rpack_small (n y h s c : Int) (w : World) (n0 : 0 < n) (n1 : n < 620000) :
    Calls Tryd.prog 40 #[desigV n y h s c] w (RPackOk n y h s c w) := by
  have F := packG_small n y h s c n0 n1
  have D1 := Lib.hid (fun w => digitI (n / 10000) (by omega) (by omega) w)
  have DC := Lib.hid (fun w => decI (n % 10000) 4 w (by omega) (by omega) (by omega) (by omega) 4 rfl)
  have pl := padL_len (n % 10000) 4 (by omega) (by omega) (by omega)
  generalize dig62 (n / 10000).toNat = a at *
  generalize padL (n % 10000) 4 = Q at *
  have F := Lib.hid F
  have a1 := addL [a] Q (by simp) (by omega)
  have e2 : ¬ (620000 : Int) ≤ n := by omega
  have n2 : 0 ≤ n := by omega
  have wd := wrap_div n 10000 n2 (by omega) (by omega)
  have wm := tmod_mod n 10000 n2
  have wn := wrap_mod n 10000 (by omega) (by omega)
  have r0 := RS.box w (.cells (desigC n y h s c).toArray 23)
  have r0d := r0.drew
  go_enter Tryd.func40, Tryd.ntmps40
  go_wp2_with fail
  go_region_held3 (fun w' => RS w w' ∧ w'.cell? ⟨w.heap.size, 0, none⟩ = some (.int .i64 n)) (first | go_keep | assumption)
    (first | (go_at_call 51; refine (DC.out _).mono ?_; rintro e w2 ⟨rfl, rfl⟩) | (go_at_call 55; refine (D1.out _).mono ?_; rintro e w2 ⟨rfl, rfl⟩))
  go_split_ands
  go_wp2_with fail
  go_ret
  exact ⟨by rw [F.out]; rfl, RS.below (by assumption)⟩
set_option maxRecDepth 100000 in
set_option maxHeartbeats 8000000 in
theorem rpack_prov (y h s c : Int) (w : World) (h0 : 0 ≤ h) (h1 : h < 256) (s0 : 0 ≤ s) (s1 : s < 256) (y0 : 1800 ≤ y) (y1 : y ≤ 2099) (c0 : 0 ≤ c) (c1 : c ≤ 619) :
    Calls Tryd.prog 40 #[desigV 0 y h s c] w (RPackOk 0 y h s c w) := by
  have F := packG_prov y h s c (by omega) c0
  have DC := Lib.hid (fun w => decI (y % 100) 2 w (by omega) (by omega) (by omega) (by omega) 2 rfl)
  have D1 := Lib.hid (fun w => digitI (c / 10) (by omega) (by omega) w)
  have D2 := Lib.hid (fun w => digitI (c % 10) (by omega) (by omega) w)
  have LH := Lib.hid (fun w => letter_any h w h0 h1)
  have LS := Lib.hid (fun w => letter_any s w s0 s1)
  have pl := padL_len (y % 100) 2 (by omega) (by omega) (by omega)
  generalize dig62 (c / 10).toNat = a at *
  generalize dig62 (c % 10).toNat = b at *
  generalize padL (y % 100) 2 = Q at *
  have r0 := RS.box w (.cells (desigC 0 y h s c).toArray 23)
  have r0d := r0.drew
  obtain ⟨x, hx⟩ : ∃ x, b8 (y / 100 + 55) = x := ⟨_, rfl⟩
  rw [hx] at F
  have F := Lib.hid F
  have a1 := addL [x] Q (by simp) (by omega)
  have a2 := addL (x :: Q) [b8 h] (by simp; omega) (by simp)
  have a3 := addL (x :: (Q ++ [b8 h])) [a] (by simp; omega) (by simp)
  have a4 := addL (x :: (Q ++ [b8 h, a])) [b] (by simp; omega) (by simp)
  have a5 := addL (x :: (Q ++ [b8 h, a, b])) [b8 s] (by simp; omega) (by simp)
  obtain ⟨K, eK⟩ : ∃ K, y / 100 - 18 = K := ⟨_, rfl⟩
  have sK : IntKind.i64.wrap (K + 1) = K + 1 := IntWalk.i64_in _ (by omega)
  have sl := fun w : World => slice_ijk y K eK x hx (by omega) (by omega) w
  have K0 : 0 ≤ K := by omega
  have K1 : K ≤ 2 := by omega
  have wm := tmod_mod y 100 (by omega)
  have wn := wrap_mod y 100 (by omega) (by omega)
  have wd := wrap_div c 10 c0 (by omega) (by omega)
  have wc := tmod_mod c 10 c0
  have we := wrap_mod c 10 (by omega) (by omega)
  clear hx
  go_enter Tryd.func40, Tryd.ntmps40
  go_wp2_with fail
  go_region_held3 (fun w' => RS w w' ∧ w'.cell? ⟨w.heap.size, 1, none⟩ = some (.int .i64 y) ∧ w'.cell? ⟨w.heap.size, 2, none⟩ = some (.int .u8 h) ∧ w'.cell? ⟨w.heap.size, 3, none⟩ = some (.int .u8 s) ∧ w'.cell? ⟨w.heap.size, 4, none⟩ = some (.int .i64 c)) (first | go_keep | assumption)
    (first | (go_at_call 51; refine (DC.out _).mono ?_; rintro e w2 ⟨rfl, rfl⟩) | (go_at_call 55; (first | (with_reducible refine (D1.out _).mono ?_) | (with_reducible refine (D2.out _).mono ?_)); rintro e w2 ⟨rfl, rfl⟩) | (go_at_call 52; (first | (with_reducible refine (LH.out _).mono ?_) | (with_reducible refine (LS.out _).mono ?_)); rintro e w2 ⟨rfl, hb⟩; go_split_ands; have hk := RS.call (by assumption) hb; have q1 := (hb.cell (p := ⟨w.heap.size, 1, none⟩) (RS.lt (by assumption))).trans (by assumption); have q2 := (hb.cell (p := ⟨w.heap.size, 2, none⟩) (RS.lt (by assumption))).trans (by assumption); have q3 := (hb.cell (p := ⟨w.heap.size, 3, none⟩) (RS.lt (by assumption))).trans (by assumption); have q4 := (hb.cell (p := ⟨w.heap.size, 4, none⟩) (RS.lt (by assumption))).trans (by assumption); clear hb))
  go_split_ands
  go_wp2_with fail
  go_ret
  exact ⟨by rw [F.out]; simp, RS.below (by assumption)⟩
end Dw
end Go.Proofs.YtdjndoafnoidbaaDoor
