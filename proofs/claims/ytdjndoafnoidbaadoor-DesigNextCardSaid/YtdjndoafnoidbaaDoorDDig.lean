/-
  Digits of the reference: decimal, value, digit, worth.
-/
import Derived.Test.YtdjndoafnoidbaaDoorDPad
namespace Go.Proofs.YtdjndoafnoidbaaDoor
namespace Dw
open Go.RowKit Dp Lw

theorem worth_inj {c d : UInt8} (h : worthN c = worthN d) (hc : worthN c < 10) : c = d := by
  have key : ∀ x : UInt8, worthN x < 10 → x.toNat = 48 + worthN x := fun x hx => by
    unfold worthN at hx ⊢
    split
    · omega
    · next g =>
      rw [if_neg g] at hx
      split at hx
      · omega
      · split at hx <;> omega
  apply UInt8.toNat_inj.1
  rw [key c hc, key d (by omega), h]
theorem dig_uniq : ∀ (k : Nat) (l m : List UInt8), l.length = k → m.length = k → allW 10 l → allW 10 m → valN 10 l = valN 10 m → l = m
  | 0, l, m, hl, hm, _, _, _ => by rw [List.eq_nil_of_length_eq_zero hl, List.eq_nil_of_length_eq_zero hm]
  | k + 1, l, m, hl, hm, al, am, hv => by
    obtain ⟨l', c, rfl⟩ : ∃ l' c, l = l' ++ [c] := ⟨l.dropLast, l.getLast (by intro e; rw [e] at hl; simp at hl), (List.dropLast_concat_getLast _).symm⟩
    obtain ⟨m', d, rfl⟩ : ∃ l' c, m = l' ++ [c] := ⟨m.dropLast, m.getLast (by intro e; rw [e] at hm; simp at hm), (List.dropLast_concat_getLast _).symm⟩
    rw [valN_snoc, valN_snoc] at hv
    have hc := al c (List.mem_append_right _ (List.mem_singleton.2 rfl))
    have hd := am d (List.mem_append_right _ (List.mem_singleton.2 rfl))
    rw [List.length_append] at hl hm
    simp only [List.length_cons, List.length_nil] at hl hm
    rw [dig_uniq k l' m' (by omega) (by omega) (fun x hx => al x (List.mem_append_left _ hx)) (fun x hx => am x (List.mem_append_left _ hx)) (by omega), worth_inj (c := c) (d := d) (by omega) hc]
/-- The last digits of a number. -/
def lastD (n : Nat) : Nat → List UInt8
  | 0 => []
  | j + 1 => dig62 (n / 10 ^ j % 10) :: lastD n j
theorem lastD_len (n : Nat) : ∀ j, (lastD n j).length = j
  | 0 => rfl
  | j + 1 => by rw [lastD, List.length_cons, lastD_len n j]
theorem foldl_from (l : List UInt8) : ∀ a : Nat, l.foldl (fun n c => n * 10 + worthN c) a = a * 10 ^ l.length + valN 10 l := by
  induction l with
  | nil => intro a; simp [valN]
  | cons c l ih =>
    intro a
    rw [List.foldl_cons, ih]
    have h : valN 10 (c :: l) = worthN c * 10 ^ l.length + valN 10 l := by
      unfold valN
      rw [List.foldl_cons, ih, Nat.zero_mul, Nat.zero_add]
      rfl
    rw [h, List.length_cons, Nat.pow_succ, Nat.add_mul, Nat.mul_assoc, Nat.mul_comm 10]
    omega
theorem lastD_val (n : Nat) : ∀ j, valN 10 (lastD n j) = n % 10 ^ j ∧ allW 10 (lastD n j)
  | 0 => ⟨by simp [lastD, valN, Nat.mod_one], allW_nil 10⟩
  | j + 1 => by
    obtain ⟨h1, h2⟩ := lastD_val n j
    have e := worth_dig (n / 10 ^ j % 10) (by omega)
    refine ⟨?_, allW_cons (by omega) h2⟩
    have h : valN 10 (lastD n (j + 1)) = worthN (dig62 (n / 10 ^ j % 10)) * 10 ^ (lastD n j).length + valN 10 (lastD n j) := by
      rw [lastD]
      unfold valN
      rw [List.foldl_cons, foldl_from, Nat.zero_mul, Nat.zero_add]
      rfl
    rw [h, e, h1, lastD_len, Nat.pow_succ]
    have := Nat.div_add_mod n (10 ^ j)
    have := Nat.mod_mul (x := n) (a := 10 ^ j) (b := 10)
    rw [this, Nat.mul_comm, Nat.add_comm]
theorem lastD_pad (n d J : Nat) (hd : 1 ≤ d) (h0 : n / 10 ^ J = 0) (h1 : d ≤ J) (h2 : J = 0 ∨ 0 < n / 10 ^ (J - 1) ∨ J - 1 < d) : lastD n J = padL (n : Int) d := by
  have hlt : n < 10 ^ J := by
    have hp : 0 < 10 ^ J := Nat.pow_pos (by omega)
    exact (Nat.div_eq_zero_iff_lt hp).1 h0
  obtain ⟨v1, v2⟩ := lastD_val n J
  obtain ⟨p1, p2⟩ := pad_val n d
  obtain ⟨K, rfl⟩ : ∃ K, J = K + 1 := ⟨J - 1, by omega⟩
  have len : (padL (n : Int) d).length = K + 1 := by
    have hl : (Lib.itoa (n : Int)).length = Lib.nDigits n := by rw [itoa_nat, Lib.decDigits_length]
    have hle := nd_le K n hlt
    have hpos := Lib.nDigits_pos n
    unfold padL
    rw [List.length_append, rep_len, hl]
    rcases h2 with h | h | h
    · omega
    · have hp : 0 < 10 ^ K := Nat.pow_pos (by omega)
      rw [Nat.add_sub_cancel] at h
      have : 10 ^ K ≤ n := by
        rcases Nat.lt_or_ge n (10 ^ K) with g | g
        · rw [Nat.div_eq_of_lt g] at h; omega
        · exact g
      have := Lib.nDigits_unique K n this hlt
      omega
    · omega
  exact dig_uniq (K + 1) _ _ (lastD_len n _) len v2 p2 (by rw [v1, p1, Nat.mod_eq_of_lt hlt])
def restN (n j : Nat) : Int := ((n / 10 ^ j : Nat) : Int)
def lastS (n j : Nat) : ByteArray := ⟨(lastD n j).toArray⟩
theorem lastS_size (n j : Nat) : (lastS n j).size = j := by unfold lastS; rw [size_mk, lastD_len]
theorem restN_bd (n j : Nat) : 0 ≤ restN n j ∧ restN n j ≤ n := by
  unfold restN
  exact ⟨Int.natCast_nonneg _, Int.ofNat_le.2 (Nat.div_le_self n (10 ^ j))⟩
theorem restN_s (n j : Nat) : restN n (j + 1) = restN n j / 10 := by
  unfold restN
  rw [Nat.pow_succ, ← Nat.div_div_eq_div_mul]
  rfl
theorem digS_ext (k : Nat) (hk : k < 62) : (digS 62).extract k (k + 1) = ⟨#[dig62 k]⟩ := by
  have key : ∀ k, k < 62 → ((digS 62).extract k (k + 1)).data.toList = [dig62 k] := by decide +kernel
  apply ByteArray.ext
  apply Array.toList_inj.1
  exact key k hk
theorem lastS_s (n j : Nat) : (digS 62).extract (restN n j % 10).toNat ((restN n j % 10).toNat + 1) ++ lastS n j = lastS n (j + 1) := by
  have e : (restN n j % 10).toNat = n / 10 ^ j % 10 := by unfold restN; omega
  rw [e, digS_ext _ (by omega)]
  exact str_app [dig62 (n / 10 ^ j % 10)] (lastD n j)
theorem dig_lit : (⟨#[48, 49, 50, 51, 52, 53, 54, 55, 56, 57, 65, 66, 67, 68, 69, 70, 71, 72, 73, 74, 75, 76, 77, 78, 79, 80, 81, 82, 83, 84, 85, 86, 87, 88, 89, 90, 97, 98, 99, 100, 101, 102, 103, 104, 105, 106, 107, 108, 109, 110, 111, 112, 113, 114, 115, 116, 117, 118, 119, 120, 121, 122]⟩ : ByteArray) = digS 62 := by decide +kernel
theorem lastS_lit (n j : Nat) (r : Int) (h : restN n j = r) (s : ByteArray) (hs : lastS n j = s) : (⟨#[48, 49, 50, 51, 52, 53, 54, 55, 56, 57, 65, 66, 67, 68, 69, 70, 71, 72, 73, 74, 75, 76, 77, 78, 79, 80, 81, 82, 83, 84, 85, 86, 87, 88, 89, 90, 97, 98, 99, 100, 101, 102, 103, 104, 105, 106, 107, 108, 109, 110, 111, 112, 113, 114, 115, 116, 117, 118, 119, 120, 121, 122]⟩ : ByteArray).extract (r % 10).toNat (r % 10 + 1).toNat ++ s = lastS n (j + 1) := by
  subst h hs
  have := lastS_s n j
  have h0 := (restN_bd n j).1
  rw [dig_lit, show (restN n j % 10 + 1).toNat = (restN n j % 10).toNat + 1 by omega]
  exact this
theorem restN_zero {n : Nat} (h : n < 10 ^ 18) {j : Nat} (hj : 18 ≤ j) : restN n j = 0 := by
  unfold restN
  have : 10 ^ 18 ≤ 10 ^ j := Nat.pow_le_pow_right (by omega) hj
  rw [Nat.div_eq_of_lt (by omega)]
  rfl
set_option maxRecDepth 100000 in
set_option maxHeartbeats 2000000 in
theorem decimal_any (n d : Nat) (w : World) (hn : n < 10 ^ 18) (hd : 1 ≤ d) (hd1 : d ≤ 18) :
    Calls Tryd.prog 51 #[.int .i64 n, .int .i64 d] w fun e w' => e = .returned (.string ⟨(padL (n : Int) d).toArray⟩) ∧ w = w' := by
  have HN := Lib.hid hn
  have e0 : restN n 0 = n := by unfold restN; simp
  rw [← e0]
  have e0 := Lib.hid e0
  clear hn
  go_enter Tryd.func51, Tryd.ntmps51
  go_wp2
  go_loop [0, 5] (fun r s => ∃ j : Nat, j ≤ 18 ∧ r = .int .i64 (restN n j) ∧ s = .string (lastS n j) ∧ Hid (j = 0 ∨ 0 < n / 10 ^ (j - 1) ∨ j - 1 < d)) (fun _ s => 18 - (match s with | .string b => b.size | _ => 0))
  case atStart => exact ⟨0, by omega, rfl, rfl, Lib.hid (Or.inl rfl)⟩
  case round =>
    obtain ⟨j, hj, rfl, rfl, D⟩ := hrel
    have sz := lastS_size n j
    have bd := restN_bd n j
    have B := HN.out
    have NX := Lib.hid (show Value.int .i64 (restN n j / 10) = .int .i64 (restN n (j + 1)) by rw [restN_s])
    have r1 : restN n j ≤ 1000000000000000000 := by
      have : (n : Int) ≤ 1000000000000000000 := by omega
      omega
    obtain ⟨r, er⟩ : ∃ r, restN n j = r := ⟨_, rfl⟩
    obtain ⟨s, es⟩ : ∃ s, lastS n j = s := ⟨_, rfl⟩
    have SX := Lib.hid (lastS_lit n j r er s es)
    have ER := Lib.hid er
    have ES := Lib.hid es
    rw [er] at bd r1 NX
    rw [es] at sz
    rw [er, es]
    clear er es
    obtain ⟨r0, _⟩ := bd
    have m0 : 0 ≤ r % 10 := by omega
    have m1 : r % 10 < 10 := by omega
    by_cases hr : 0 < r
    · have j18 : j < 18 := by
        rcases Nat.lt_or_ge j 18 with g | g
        · exact g
        · have := restN_zero B g; rw [ER.out] at this; omega
      have D2 : Hid (j + 1 = 0 ∨ 0 < n / 10 ^ (j + 1 - 1) ∨ j + 1 - 1 < d) := Lib.hid (Or.inr (Or.inl (by
        have := ER.out
        unfold restN at this
        rw [Nat.add_sub_cancel]
        exact Int.ofNat_lt.1 (by rw [this]; exact hr))))
      clear B D
      go_wp2_with fail
      go_round
      case rel => exact ⟨j + 1, by omega, NX.out, congrArg Value.string SX.out, D2⟩
      case measure =>
        show 18 - (_ : ByteArray).size < 18 - s.size
        rw [SX.out, lastS_size]
        omega
    · by_cases hjd : j < d
      · have hjd' : (j : Int) < d := by omega
        have D2 : Hid (j + 1 = 0 ∨ 0 < n / 10 ^ (j + 1 - 1) ∨ j + 1 - 1 < d) := Lib.hid (Or.inr (Or.inr (by omega)))
        clear B D
        go_wp2_with fail
        go_round
        case rel => exact ⟨j + 1, by omega, NX.out, congrArg Value.string SX.out, D2⟩
        case measure =>
          show 18 - (_ : ByteArray).size < 18 - s.size
          rw [SX.out, lastS_size]
          omega
      · have hjd' : ¬ (j : Int) < d := by omega
        have FN := Lib.hid (show s = ⟨(padL (n : Int) d).toArray⟩ by
          rw [← ES.out]
          unfold lastS
          rw [lastD_pad n d j hd (by have := ER.out; unfold restN at this; omega) (by omega) D.out])
        clear B D
        go_wp2_with fail
        go_ret
        exact ⟨by rw [FN.out]; rfl, rfl⟩
end Dw
end Go.Proofs.YtdjndoafnoidbaaDoor
