/-
  Pack of package desig, of small numbers and of provisional designations.
-/
import Derived.Test.YtdjndoafnoidbaaDoorDPack
namespace Go.Proofs.YtdjndoafnoidbaaDoor
namespace Dw
open Go.RowKit Dp Lw

theorem packG_small (n y h s c : Int) (h0 : 0 < n) (h1 : n < 620000) : packG ⟨n, y, h, s, c⟩ = dig62 (n / 10000).toNat :: padL (n % 10000) 4 := by
  obtain ⟨k, rfl⟩ := Int.eq_ofNat_of_zero_le (show 0 ≤ n by omega)
  have hp : packG ⟨(k : Int), y, h, s, c⟩ = dig62 ((k : Int).toNat / 10000) :: padL (((k : Int).toNat % 10000 : Nat) : Int) 4 := by
    unfold packG
    rw [if_neg (by show ¬ 620000 ≤ (k : Int); omega), if_pos h0]
  rw [hp, Int.toNat_natCast, show ((k : Int) / 10000).toNat = k / 10000 by omega]
  rfl
theorem packG_prov (y h s c : Int) (y0 : 0 ≤ y) (c0 : 0 ≤ c) : packG ⟨0, y, h, s, c⟩ = b8 (y / 100 + 55) :: (padL (y % 100) 2 ++ [b8 h, dig62 (c / 10).toNat, dig62 (c % 10).toNat, b8 s]) := by
  obtain ⟨v, rfl⟩ := Int.eq_ofNat_of_zero_le y0
  obtain ⟨k, rfl⟩ := Int.eq_ofNat_of_zero_le c0
  have hp : packG ⟨0, (v : Int), h, s, k⟩ = b8 ((v : Int) / 100 + 55) :: (padL (((v : Int).toNat % 100 : Nat) : Int) 2 ++ [b8 h, dig62 ((k : Int).toNat / 10), dig62 ((k : Int).toNat % 10), b8 s]) := by
    unfold packG
    rw [if_neg (by simp), if_neg (by simp)]
  rw [hp, Int.toNat_natCast, Int.toNat_natCast, show ((k : Int) / 10).toNat = k / 10 by omega, show ((k : Int) % 10).toNat = k % 10 by omega]
  rfl
theorem padI (n : Int) (d : Nat) (w : World) (hT : Tb w) (h0 : 0 ≤ n) (h1 : n ≤ 1000000000000000000) (hd : d ≤ 20) (D : Int) (hD : D = d) :
    Calls Tryd.prog 38 #[.int .i64 n, .int .i64 D] w fun e w' => e = .returned (.string ⟨(padL n d).toArray⟩) ∧ Below w.heap.size w w' := by
  subst hD
  exact pad_any n d w hT h0 h1 hd
theorem padL_len (n : Int) (d : Nat) (h0 : 0 ≤ n) (h1 : n < 10 ^ 4) (hd : d ≤ 4) : (padL n d).length ≤ 4 + d := by
  obtain ⟨k, rfl⟩ := Int.eq_ofNat_of_zero_le h0
  have h2 := itoa_len k 3 (by omega)
  unfold padL
  rw [List.length_append, rep_len]
  omega
theorem BW.writeI {W0 : World} {l : List UInt8} {a : World} (hb : BW W0 l a) (hT : Tb W0) (hl : l.length ≤ 1000) {c : Int} (h0 : 0 ≤ c) (h1 : c < 256) :
    Calls Tryd.prog 36 #[.pointer (some ⟨W0.heap.size, 0, none⟩), .int .u8 c] a fun e w' => e = .returned .nilIface ∧ BW W0 (l ++ [b8 c]) w' := by
  have h := hb.write hT hl (b8 c)
  rwa [b8_of h0 h1] at h
set_option maxRecDepth 100000 in
set_option maxHeartbeats 8000000 in
theorem pack_small (n y h s c : Int) (w : World) (hT : Tb w) (h0 : 0 ≤ h) (h1 : h < 256) (s0 : 0 ≤ s) (s1 : s < 256) (g : okD n y h s c) (n0 : 0 < n) (n1 : n < 620000) :
    Calls Tryd.prog 18 #[desigV n y h s c] w (PackOk n y h s c w) := by
  have C := Lib.hid (check_any n y h s c (w.alloc (.cells (desigC n y h s c).toArray 23)) (hT.ord.alloc _) h0 h1 s0 s1)
  rw [errC_ok g] at C
  have F := packG_small n y h s c n0 n1
  have r1 := rangeAt_new w (desigC n y h s c) 23
  have hts := TS.box hT (.cells (desigC n y h s c).toArray 23)
  have x1 := fun w => idx_litI (n / 10000) (by omega) (by omega) w
  have e2 : ¬ (620000 : Int) ≤ n := by omega
  have PD := Lib.hid (fun w hw => padI (n % 10000) 4 w hw (by omega) (by omega) (by omega) 4 rfl)
  have pl := padL_len (n % 10000) 4 (by omega) (by omega) (by omega)
  generalize padL (n % 10000) 4 = Q at *
  have F := Lib.hid F
  have n2 : 0 ≤ n := by omega
  clear g hT
  go_enter Tryd.func18, Tryd.ntmps18
  go_wp2_with (refine wpList_load_mid rfl _ (.tmp 1) rfl w.heap.size 0 rfl (desigC n y h s c) _ r1 Tryd.underlying23 rfl info5d ?_)
  go_at_call 24
  refine C.out.mono ?_
  rintro e w1 ⟨rfl, hb1⟩
  have ht1 := hts.call hb1
  have k0 : w1.cell? ⟨w.heap.size, 0, none⟩ = some (.int .i64 n) := rangeAt_below r1 hb1 (by simp) 0 _ rfl
  clear C r1 hts hb1
  have b0 := BW.new ht1.tab
  have T1 := Lib.hid ht1.tab
  have lt1 := ht1.lt
  have B0 := Lib.hid ht1.below
  clear ht1
  go_wp2_with fail
  refine (b0.write T1.out (by simp) _).mono ?_
  rintro e w2 ⟨rfl, b1⟩
  clear b0
  go_wp2_with fail
  go_at_call 38
  refine (PD.out _ b1.tb).mono ?_
  rintro e w3 ⟨rfl, hb⟩
  have b2 := b1.call hb
  clear b1 hb PD
  go_wp2_with fail
  refine (b2.writes T1.out (by simp) _ (by omega)).mono ?_
  rintro e w4 ⟨rfl, b3⟩
  clear b2
  go_wp2_with fail
  refine b3.str.mono ?_
  rintro e w7 ⟨rfl, hb⟩
  clear b3
  go_wp2_with fail
  go_ret2
  exact ⟨by rw [F.out]; rfl, below_then B0.out hb⟩
theorem idx_ijk (y : Int) (h0 : 1800 ≤ y) (h1 : y ≤ 2099) (w : World) : (Instr.index 9 (.string ⟨#[73, 74, 75]⟩) (.int .i64 (y / 100 - 18))).run Tryd.prog w = .ok (.int .u8 ((b8 (y / 100 + 55)).toNat : Int)) w := by
  have hs : (⟨#[73, 74, 75]⟩ : ByteArray).size = 3 := rfl
  have key : ∀ k : Nat, k < 3 → ∀ h : k < (⟨#[73, 74, 75]⟩ : ByteArray).size, (((⟨#[73, 74, 75]⟩ : ByteArray)[k]'h).toNat : Int) = k + 73 := by decide
  rw [run_index_string (P := Tryd.prog) w 9 _ .i64 (y / 100 - 18) Tryd.underlying9, dif_pos ⟨by omega, by rw [hs]; omega⟩]
  rw [key _ (by omega), b8_of (by omega) (by omega), show (((y / 100 - 18).toNat : Nat) : Int) + 73 = y / 100 + 55 by omega]
set_option maxRecDepth 100000 in
set_option maxHeartbeats 8000000 in
theorem pack_prov (y h s c : Int) (w : World) (hT : Tb w) (h0 : 0 ≤ h) (h1 : h < 256) (s0 : 0 ≤ s) (s1 : s < 256) (g : okD 0 y h s c) :
    Calls Tryd.prog 18 #[desigV 0 y h s c] w (PackOk 0 y h s c w) := by
  have C := Lib.hid (check_any 0 y h s c (w.alloc (.cells (desigC 0 y h s c).toArray 23)) (hT.ord.alloc _) h0 h1 s0 s1)
  rw [errC_ok g] at C
  have hy : 1800 ≤ y ∧ y ≤ 2099 ∧ 0 ≤ c ∧ c ≤ 619 := by unfold okD at g; omega
  obtain ⟨y0, y1, c0, c1⟩ := hy
  have F := packG_prov y h s c (by omega) c0
  have r1 := rangeAt_new w (desigC 0 y h s c) 23
  have hts := TS.box hT (.cells (desigC 0 y h s c).toArray 23)
  have x0 := fun w => idx_ijk y y0 y1 w
  have x1 := fun w => idx_litI (c / 10) (by omega) (by omega) w
  have x2 := fun w => idx_litI (c % 10) (by omega) (by omega) w
  have PD := Lib.hid (fun w hw => padI (y % 100) 2 w hw (by omega) (by omega) (by omega) 2 rfl)
  have pl := padL_len (y % 100) 2 (by omega) (by omega) (by omega)
  generalize padL (y % 100) 2 = Q at *
  have F := Lib.hid F
  clear g hT
  go_enter Tryd.func18, Tryd.ntmps18
  go_wp2_with (refine wpList_load_mid rfl _ (.tmp 1) rfl w.heap.size 0 rfl (desigC 0 y h s c) _ r1 Tryd.underlying23 rfl info5d ?_)
  go_at_call 24
  refine C.out.mono ?_
  rintro e w1 ⟨rfl, hb1⟩
  have ht1 := hts.call hb1
  have k0 : w1.cell? ⟨w.heap.size, 0, none⟩ = some (.int .i64 0) := rangeAt_below r1 hb1 (by simp) 0 _ rfl
  have k1 : w1.cell? ⟨w.heap.size, 1, none⟩ = some (.int .i64 y) := rangeAt_below r1 hb1 (by simp) 1 _ rfl
  have k2 : w1.cell? ⟨w.heap.size, 2, none⟩ = some (.int .u8 h) := rangeAt_below r1 hb1 (by simp) 2 _ rfl
  have k3 : w1.cell? ⟨w.heap.size, 3, none⟩ = some (.int .u8 s) := rangeAt_below r1 hb1 (by simp) 3 _ rfl
  have k4 : w1.cell? ⟨w.heap.size, 4, none⟩ = some (.int .i64 c) := rangeAt_below r1 hb1 (by simp) 4 _ rfl
  clear C r1 hts hb1
  have b0 := BW.new ht1.tab
  have T1 := Lib.hid ht1.tab
  have lt1 := ht1.lt
  have B0 := Lib.hid ht1.below
  clear ht1
  go_wp2_with fail
  refine (b0.write T1.out (by simp) _).mono ?_
  rintro e w2 ⟨rfl, b1⟩
  have q1 := b1.cell _ _ _ lt1 k1
  clear b0
  go_wp2_with fail
  go_at_call 38
  refine (PD.out _ b1.tb).mono ?_
  rintro e w3 ⟨rfl, hb⟩
  have b2 := b1.call hb
  clear b1 hb PD q1
  go_wp2_with fail
  refine (b2.writes T1.out (by simp) _ (by omega)).mono ?_
  rintro e w4 ⟨rfl, b3⟩
  have q2 := b3.cell _ _ _ lt1 k2
  clear b2
  go_wp2_with fail
  refine (b3.writeI T1.out (by simp; omega) h0 h1).mono ?_
  rintro e w5 ⟨rfl, b4⟩
  have q4 := b4.cell _ _ _ lt1 k4
  clear b3 q2
  go_wp2_with fail
  refine (b4.write T1.out (by simp; omega) _).mono ?_
  rintro e w6 ⟨rfl, b5⟩
  have q5 := b5.cell _ _ _ lt1 k4
  clear b4 q4
  go_wp2_with fail
  refine (b5.write T1.out (by simp; omega) _).mono ?_
  rintro e w7 ⟨rfl, b6⟩
  have q6 := b6.cell _ _ _ lt1 k3
  clear b5 q5
  go_wp2_with fail
  refine (b6.writeI T1.out (by simp; omega) s0 s1).mono ?_
  rintro e w8 ⟨rfl, b7⟩
  clear b6 q6
  go_wp2_with fail
  refine b7.str.mono ?_
  rintro e w9 ⟨rfl, hb⟩
  clear b7
  go_wp2_with fail
  go_ret2
  exact ⟨by rw [F.out]; simp, below_then B0.out hb⟩
theorem Pack_ok (n y h s c : Int) (w : World) (hT : Tb w) (h0 : 0 ≤ h) (h1 : h < 256) (s0 : 0 ≤ s) (s1 : s < 256) (g : okD n y h s c) :
    Calls Tryd.prog 18 #[desigV n y h s c] w (PackOk n y h s c w) := by
  by_cases hn : 620000 ≤ n
  · obtain ⟨m, rfl⟩ : ∃ m, n = m + 620000 := ⟨n - 620000, by omega⟩
    exact pack_big m y h s c w hT h0 h1 s0 s1 g (by omega)
  · by_cases hn0 : 0 < n
    · exact pack_small n y h s c w hT h0 h1 s0 s1 g hn0 (by omega)
    · have : n = 0 := by have := okD_bd g; omega
      subst this
      exact pack_prov y h s c w hT h0 h1 s0 s1 g
end Dw
end Go.Proofs.YtdjndoafnoidbaaDoor
