/-
  Lemmas and walks, texts joined: MRdPl2, MPDay, MNmPl, PNum, PTen, PRnd, PCom, PParts, PParts2, PSpec, OPl, PRead, PRead2, OWord, ONumb, KAtoi, Shelf3, DPack, DPack2, DRPack, DParse, DParse2, KCopy, KIdx.
-/
import Derived.Lib.AtoiErrMem
import Derived.ProofKit
import Derived.Lib.Hide
import Derived.Laws.RangeAny
import Derived.LoopTactic
import Derived.Deep.QuietTactic
import Derived.BigQuiet
import Derived.WalkLawsBesides
import Derived.WalkSpells
import Derived.Laws.BitsAllLaws
import Derived.Deep.RegionHeld3
import Derived.Laws.IdiomStrings
import Derived.Deep.DeepCutAuto
import Derived.Lib.AtoiOr
import Derived.Shelf.Strings.Builder2
import Derived.Shelf.Strings.BuilderF
import Derived.IntWalk
import Derived.Deep.MidRow
import Derived.Laws.Cells
import Derived.Test.YtafeigpmldgifaaDoorKt04
import Derived.Test.YtafeigpmldgifaaDoorKt01
import Derived.Test.YtafeigpmldgifaaDoorRows
import Derived.Test.YtafeigpmldgifaaDoorKt02
import Derived.Test.YtafeigpmldgifaaDoorKt03
set_option linter.unusedSimpArgs false
set_option linter.unusedVariables false
/-
  Plain laws of MomentRounds, second part: the time of a text, and the text of that time; no walk here.
-/
namespace Go.Proofs.YtafeigpmldgifaaDoor
namespace At
open Go.RowKit Lw Ap Go.Proofs.YtafeigpmldgifaaDoor.Mp Go.Proofs.YtafeigpmldgifaaDoor.Mw

theorem take_dec (d : Nat) : ∀ j u, (decL u (d + j)).take d = decL (u / 10 ^ j) d
  | 0, u => by
    rw [Nat.add_zero, Nat.pow_zero, Nat.div_one]
    exact List.take_of_length_le (by rw [decL_len]; omega)
  | j + 1, u => by
    rw [← Nat.add_assoc, decL, List.take_append_of_le_length (by rw [decL_len]; omega), take_dec d j (u / 10), Nat.div_div_eq_div_mul, Nat.pow_succ, Nat.mul_comm (10 ^ j) 10]
theorem last_of {s : ByteArray} {x : List UInt8} {c : UInt8} (hs : s.data.toList = x ++ [c]) : bt s (s.size - 1) = (c.toNat : Int) := by
  have sz : s.size = x.length + 1 := by have := congrArg List.length hs; simpa using this
  rw [bt_L s _ (by omega), hs, sz, Nat.add_sub_cancel, List.getD_eq_getElem?_getD, List.getElem?_append_right (Nat.le_refl _), Nat.sub_self]
  rfl
theorem micro_le {u j : Nat} : u / 10 ^ j * 10 ^ j ≤ u ∧ u < u / 10 ^ j * 10 ^ j + 10 ^ j := by
  have e := Nat.div_add_mod u (10 ^ j)
  have l := Nat.mod_lt u (show 0 < 10 ^ j from Nat.pow_pos (by omega))
  rw [Nat.mul_comm] at e
  omega
theorem dec1 {u k : Nat} {l : List UInt8} (h : u < 10 ^ k) (e : decL u k = l) : numV l = u := by rw [← e, dec_val h]
theorem micro_of {s : ByteArray} {d U : Nat} (d6 : d ≤ 6) (z7 : U < 10 ^ 6) (sz : s.size = 20 + (if 0 < d then d + 1 else 0)) (hn : 0 < d → nm s 20 (s.size - 1) = numV ((decL U 6).take d)) :
    (0 < d → 0 ≤ nm s 20 (s.size - 1)) ∧ ∃ V : Nat, microV s = V ∧ V ≤ U ∧ U < V + 10 ^ (6 - d) := by
  by_cases c : 0 < d
  · have tk : (decL U 6).take d = decL (U / 10 ^ (6 - d)) d := by
      have := take_dec d (6 - d) U
      rwa [show d + (6 - d) = 6 by omega] at this
    have eN : nm s 20 (s.size - 1) = (U / 10 ^ (6 - d) : Nat) := by
      rw [hn c, tk]
      refine dec_val ?_
      refine Nat.div_lt_of_lt_mul ?_
      rw [← Nat.pow_add]
      rwa [show 6 - d + d = 6 by omega]
    rw [if_pos c] at sz
    refine ⟨fun _ => by rw [eN]; exact Int.natCast_nonneg _, U / 10 ^ (6 - d) * 10 ^ (6 - d), ?_, micro_le.1, micro_le.2⟩
    unfold microV tenI
    rw [if_neg (by omega), eN, show 27 - s.size = 6 - d by omega]
    exact (Int.natCast_mul _ _).symm
  · obtain rfl : d = 0 := by omega
    rw [if_neg (by omega)] at sz
    refine ⟨fun h => absurd h c, 0, ?_, by omega, by omega⟩
    unfold microV
    rw [if_pos (by omega)]
    rfl
/-- The time of a text is the time, with the digits left out. -/
theorem text_parse {t d : Int} {s : ByteArray} (a : TextIs t d s 0) : ∃ v, ParseIs s v 0 ∧ v ≤ t ∧ t - v < tenI (6 - d.toNat) ∧ s.size ≤ 27 := by
  rcases a with ⟨_, _, c⟩ | ⟨_, _, _, _, c⟩ | ⟨d0, d6, b1, b2, n, y, m, z, k, hd, hs, _⟩
  · omega
  · omega
  obtain ⟨d, rfl⟩ : ∃ e : Nat, d = e := ⟨d.toNat, by omega⟩
  rw [Int.toNat_natCast] at *
  obtain ⟨f1, f2⟩ := to_from hd
  obtain ⟨Y, M, D, H, I, S, U, e1, e2, e3, e4, e5, e6, e7, z1, z2, z3, z4, z5, z6, z7⟩ := date_nat hd
  rw [e3, e4, e5, e6, e7, e1, e2] at hs
  simp only [Int.toNat_natCast] at hs
  rw [e3, e4, e5, e6, e7] at f1 f2
  have hL := text_L Y M D H I S U d
  rw [← hs] at hL
  obtain ⟨c0, c1, c2, c3, x0, i0, i1, i2, i3⟩ := dec4 Y
  obtain ⟨c4, c5, x1, i4, i5⟩ := dec2 M
  obtain ⟨c6, c7, x2, i6, i7⟩ := dec2 D
  obtain ⟨c8, c9, x3, i8, i9⟩ := dec2 H
  obtain ⟨c10, c11, x4, i10, i11⟩ := dec2 I
  obtain ⟨c12, c13, x5, i12, i13⟩ := dec2 S
  rw [x0, x1, x2, x3, x4, x5] at hL
  obtain ⟨r, hr⟩ : ∃ r, (if 0 < d then 46 :: (decL U 6).take d else []) ++ [(90 : UInt8)] = r := ⟨_, rfl⟩
  rw [hr] at hL
  have hL : s.data.toList = l19 c0 c1 c2 c3 c4 c5 c6 c7 c8 c9 c10 c11 c12 c13 r := hL
  have rl : r.length = (if 0 < d then d + 1 else 0) + 1 := by
    rw [← hr]
    by_cases c : 0 < d
    · simp [c, decL_len]; omega
    · simp [c]
  have sz : s.size = 20 + (if 0 < d then d + 1 else 0) := by
    have := congrArg List.length hL
    simp [rl] at this
    omega
  have dd : d ≤ 6 := by omega
  have sz27 : s.size ≤ 27 := by rw [sz]; split <;> omega
  have sz20 : 20 ≤ s.size := by rw [sz]; omega
  obtain ⟨n1, n2, n3, n4, n5, n6⟩ := text_nums hL
  rw [dec1 z1 x0] at n1
  rw [dec1 z2 x1] at n2
  rw [dec1 z3 x2] at n3
  rw [dec1 z4 x3] at n4
  rw [dec1 z5 x4] at n5
  rw [dec1 z6 x5] at n6
  have hn : 0 < d → nm s 20 (s.size - 1) = numV ((decL U 6).take d) := fun c => by
    rw [nm_L hL _ _ (by omega)]
    have : s.size - 1 - 20 = d := by rw [sz, if_pos c]; omega
    rw [this]
    rw [if_pos c] at hr
    rw [← hr]
    have e : (List.drop 20 (l19 c0 c1 c2 c3 c4 c5 c6 c7 c8 c9 c10 c11 c12 c13 (46 :: List.take d (decL U 6) ++ [90]))) = List.take d (decL U 6) ++ [90] := rfl
    rw [e, List.take_append_of_le_length (by rw [List.length_take, decL_len]; omega), List.take_take]
    congr 2; omega
  obtain ⟨hp, V, mV, v1, v2⟩ := micro_of dd z7 sz hn
  have tp : textP s := by
    refine ⟨sz20, by rw [sz]; split <;> omega, sz27, ?_, ?_, fun h => ?_⟩
    · have : s.data.toList = l19 c0 c1 c2 c3 c4 c5 c6 c7 c8 c9 c10 c11 c12 c13 (if 0 < d then 46 :: (decL U 6).take d else []) ++ [90] := by rw [hL, ← hr]; rfl
      exact last_of this
    · refine like19 (a := c0) (b := c1) (c := c2) (d := c3) (e := c4) (f := c5) (g := c6) (h := c7) (i := c8) (j := c9) (k := c10) (l := c11) (m := c12) (n := c13) ?_ i0 i1 i2 i3 i4 i5 i6 i7 i8 i9 i10 i11 i12 i13
      rw [ext_L _ _ _ (by omega), hL]
      rfl
    · have c : 0 < d := by rw [sz] at h; split at h <;> omega
      refine ⟨?_, hp c⟩
      rw [bt_L s 19 (by omega), hL, ← hr, if_pos c]
      rfl
  obtain ⟨w1, w2, w3, w4, w5, w6, w7, w8, w9⟩ := f1
  refine ⟨textV s, Or.inl ⟨⟨tp, ?_⟩, rfl, rfl⟩, ?_, ?_, sz27⟩
  · rw [n1, n2, n3, n4, n5, n6, mV, ← e1, ← e2]
    exact ⟨w1, w2, w3, w4, w5, w6, by omega, by omega, w9⟩
  · unfold textV
    rw [n1, n2, n3, n4, n5, n6, mV, ← e1, ← e2, ← f2]
    unfold timeOf
    omega
  · unfold textV
    rw [n1, n2, n3, n4, n5, n6, mV, ← e1, ← e2]
    rw [← f2]
    unfold timeOf tenI
    omega
theorem val2 {a b : UInt8} (ha : isD a) (hb : isD b) : decL (numV [a, b]).toNat 2 = [a, b] := by
  rw [numV_yes (num2 ha hb).1]
  exact dec_of (num2 ha hb).1
theorem val4 {a b c d : UInt8} (ha : isD a) (hb : isD b) (hc : isD c) (hd : isD d) : decL (numV [a, b, c, d]).toNat 4 = [a, b, c, d] := by
  rw [numV_yes (num4 ha hb hc hd).1]
  exact dec_of (num4 ha hb hc hd).1
/-- The text of the time of a text is the text. -/
theorem parse_text {s : ByteArray} {v : Int} (a : ParseIs s v 0) : TextIs v (if 0 ≤ (s.size : Int) - 21 then (s.size : Int) - 21 else 0) s 0 ∧ s.size ≤ 27 := by
  rcases a with ⟨⟨⟨t1, t2, t3, t4, t5, t6⟩, ok⟩, rfl, _⟩ | ⟨_, _, c⟩
  · refine ⟨?_, t3⟩
    obtain ⟨c0, c1, c2, c3, c4, c5, c6, c7, c8, c9, c10, c11, c12, c13, r, hL, i0, i1, i2, i3, i4, i5, i6, i7, i8, i9, i10, i11, i12, i13⟩ := split19 (by omega) t5
    have sz : s.size = 19 + r.length := by have := congrArg List.length hL; simp at this; omega
    obtain ⟨n1, n2, n3, n4, n5, n6⟩ := text_nums hL
    obtain ⟨z, k, hd, e1, e2, e3, e4, e5⟩ := from_to ok
    have b1 := bgv_mono hd.ym ym_72 hd.n1
    have b2 := bgv_mono ym_00 hd.zk (by have := hd.n2; omega)
    have lo := hd.lo
    have hi := hd.hi
    obtain ⟨r', x, hr⟩ : ∃ r' x, r = r' ++ [x] := ⟨r.dropLast, r.getLast (by intro h; rw [h] at sz; simp at sz; omega), (List.dropLast_concat_getLast _).symm⟩
    have hx : x = 90 := by
      have : s.data.toList = l19 c0 c1 c2 c3 c4 c5 c6 c7 c8 c9 c10 c11 c12 c13 r' ++ [x] := by rw [hL, hr]; rfl
      rw [last_of this] at t4
      exact u8_val (n := 90) (by omega) t4
    subst hx
    have rl : s.size = 20 + r'.length := by rw [sz, hr]; simp; omega
    have key : (if 0 < s.size - 21 then 46 :: (decL (microV s).toNat 6).take (s.size - 21) else []) = r' := by
      match r', rl with
      | [], rl => rw [if_neg (by simp at rl; omega)]
      | y :: T, rl =>
        have rl : s.size = 21 + T.length := by simp at rl; omega
        rw [if_pos (by omega)]
        obtain ⟨p1, p2⟩ := t6 (by omega)
        rw [bt_L s 19 (by omega), hL, hr] at p1
        have hy : y = 46 := u8_val (n := 46) (by omega) p1
        subst hy
        have eN : nm s 20 (s.size - 1) = numV T := by
          rw [nm_L hL _ _ (by omega), hr]
          have e : (List.drop 20 (l19 c0 c1 c2 c3 c4 c5 c6 c7 c8 c9 c10 c11 c12 c13 (46 :: T ++ [90]))) = T ++ [90] := rfl
          rw [e, List.take_append_of_le_length (by omega), List.take_of_length_le (by omega)]
        have aT : allD T := (numV_nn T).1 (by rw [← eN]; exact p2)
        have aZ : allD (T ++ List.replicate (6 - T.length) 48) := fun c hc => by
          rcases List.mem_append.1 hc with h | h
          · exact aT c h
          · rw [(List.mem_replicate.1 h).2]; exact ⟨by decide, by decide⟩
        have eM : microV s = numL (T ++ List.replicate (6 - T.length) 48) := by
          unfold microV
          rw [if_neg (by omega), eN, numV_yes aT, numL_zeros, show 27 - s.size = 6 - T.length by omega]
        have := dec_of aZ
        rw [show (T ++ List.replicate (6 - T.length) (48 : UInt8)).length = 6 by rw [List.length_append, List.length_replicate]; omega] at this
        rw [eM, this, show s.size - 21 = T.length by omega, List.take_left]
    refine Or.inr (Or.inr ⟨by split <;> omega, by split <;> omega, Int.le_trans b1 lo, Int.lt_of_lt_of_le hi b2, _, _, _, z, k, hd, ?_, rfl⟩)
    unfold textV
    rw [← e1, ← e2, ← e3, ← e4, ← e5]
    apply toL_inj
    rw [text_L, n1, n2, n3, n4, n5, n6, val4 i0 i1 i2 i3, val2 i4 i5, val2 i6 i7, val2 i8 i9, val2 i10 i11, val2 i12 i13]
    have ed : (if 0 ≤ (s.size : Int) - 21 then (s.size : Int) - 21 else 0).toNat = s.size - 21 := by split <;> omega
    rw [ed, key, hL, hr]
    rfl
  · omega
/-! ### Texts of days -/
theorem day_in_len {y m d P : Int} (hw : wholeP y m d) (p0 : 0 ≤ P) (p1 : P < dayLen y m d) : ∃ z k, DayOf (bgv (dn y m d) y m + P) (dn y m d) y m z k ∧ bgv (dn y m d + 1) z k - bgv (dn y m d) y m = dayLen y m d := by
  have wr := wholeP_range hw
  obtain ⟨z, k, z1, z2, zk⟩ := ym_ex (dn y m d + 1) (by omega) (by omega)
  have dl := day_diff hw zk
  exact ⟨z, k, ⟨wholeP_ym hw, zk, by omega, by omega, by omega, by omega, hw.1, by have := hw.2.1; omega⟩, dl⟩
/-- A part of a day, rounded up, has the digits that it was made of. -/
theorem up_frac {q L T : Nat} (hT : 0 < T) (hL : T ≤ L) (hq : q < T) : ∃ P : Nat, upI ((q : Int) * L) T = P ∧ P < L ∧ P * T / L = q ∧ (∀ P0 : Nat, q = P0 * T / L → P ≤ P0) := by
  have hL0 : 0 < L := by omega
  obtain ⟨r, hr⟩ : ∃ r, q * L % T = r := ⟨_, rfl⟩
  obtain ⟨g, hg⟩ : ∃ g, q * L / T = g := ⟨_, rfl⟩
  have dm := Nat.div_add_mod (q * L) T
  have rl := Nat.mod_lt (q * L) hT
  rw [hr, hg] at dm
  rw [hr] at rl
  have e : upI ((q : Int) * L) T = ((g + if 0 < r then 1 else 0 : Nat) : Int) := by
    unfold upI
    rw [← Int.natCast_mul, ← Int.natCast_ediv, ← Int.natCast_emod, hr, hg]
    by_cases c : 0 < r
    · rw [if_pos (by omega), if_pos c]; rfl
    · rw [if_neg (by omega), if_neg c]; rfl
  obtain ⟨P, hP⟩ : ∃ P, g + (if 0 < r then 1 else 0) = P := ⟨_, rfl⟩
  rw [hP] at e
  have lo : q * L ≤ P * T := by
    rw [← hP]
    by_cases c : 0 < r
    · rw [if_pos c, Nat.add_mul, Nat.mul_comm g T]; omega
    · rw [if_neg c, Nat.add_zero, Nat.mul_comm g T]; omega
  have hi : P * T < q * L + T := by
    rw [← hP]
    by_cases c : 0 < r
    · rw [if_pos c, Nat.add_mul, Nat.mul_comm g T]; omega
    · rw [if_neg c, Nat.add_zero, Nat.mul_comm g T]; omega
  have eq : P * T / L = q := by
    apply Nat.div_eq_of_lt_le
    · exact lo
    · rw [Nat.add_mul, Nat.one_mul]; omega
  refine ⟨P, e, ?_, eq, fun P0 h0 => ?_⟩
  · have h1 : (q + 1) * L ≤ T * L := Nat.mul_le_mul_right L hq
    rw [Nat.add_mul, Nat.one_mul] at h1
    have h2 : P * T < L * T := by rw [Nat.mul_comm L T]; omega
    exact Nat.lt_of_mul_lt_mul_right h2
  · have h1 : q * L ≤ P0 * T := by rw [h0]; exact Nat.div_mul_le_self _ _
    have h2 : P * T < P0 * T + T := by omega
    rw [← Nat.succ_mul] at h2
    have := Nat.lt_of_mul_lt_mul_right h2
    omega
theorem ten_len (y m D : Int) (d : Nat) (hd : d ≤ 9) : ∃ L : Nat, dayLen y m D = L ∧ 10 ^ d ≤ L ∧ 0 < 10 ^ d := by
  have := dayLen_bd y m D
  have h9 : ∀ r : Nat, r ≤ 9 → 10 ^ r ≤ 1000000000 := by decide
  have := h9 d hd
  exact ⟨(dayLen y m D).toNat, by omega, by omega, Nat.pow_pos (by omega)⟩
/-- The text of a day is read as a time of the same text. -/
theorem day_core2 {s : ByteArray} {y m D : Int} {q d : Nat} (hd : d ≤ 9) (hw : wholeP y m D) (hq : q < 10 ^ d) (hs : s = daytS y.toNat m.toNat D.toNat q d) :
    ∃ P : Nat, PDayIs s (bgv (dn y m D) y m + P) 0 ∧ DayIs (bgv (dn y m D) y m + P) d s 0 ∧ s.size ≤ 20 ∧ (∀ P0 : Nat, (q : Int) = P0 * 10 ^ d / dayLen y m D → P ≤ P0) ∧ (q : Int) * dayLen y m D ≤ P * 10 ^ d := by
  obtain ⟨L, eL, TL, T0⟩ := ten_len y m D d hd
  obtain ⟨P, e, pl, eq, mn⟩ := up_frac T0 TL hq
  have bo := hw
  obtain ⟨g1, g2, g3, g4, g5, g6⟩ := bo
  have ml := mo_len y m g3 g4
  obtain ⟨z, k, dy, dl⟩ := day_in_len hw (P := P) (by omega) (by rw [eL]; omega)
  have b1 := bgv_mono dy.ym ym_72 dy.n1
  have b2 := bgv_mono ym_00 dy.zk (by have := dy.n2; omega)
  have lo := dy.lo
  have hi := dy.hi
  have hL := dayt_L y.toNat m.toNat D.toNat q d
  rw [← hs] at hL
  obtain ⟨c0, c1, c2, c3, x0, i0, i1, i2, i3⟩ := dec4 y.toNat
  obtain ⟨c4, c5, x1, i4, i5⟩ := dec2 m.toNat
  obtain ⟨c6, c7, x2, i6, i7⟩ := dec2 D.toNat
  rw [x0, x1, x2] at hL
  obtain ⟨r, hr⟩ : ∃ r, (if 0 < d then (46 : UInt8) :: decL q d else []) = r := ⟨_, rfl⟩
  rw [hr] at hL
  have hL : s.data.toList = l10 c0 c1 c2 c3 c4 c5 c6 c7 r := hL
  have rl : r.length = (if 0 < d then d + 1 else 0) := by
    rw [← hr]
    by_cases c : 0 < d
    · simp [c, decL_len]
    · simp [c]
  have sz : s.size = 10 + (if 0 < d then d + 1 else 0) := by
    have := congrArg List.length hL
    simp [rl] at this
    omega
  have sz20 : s.size ≤ 20 := by rw [sz]; split <;> omega
  have sz10 : 10 ≤ s.size := by rw [sz]; omega
  obtain ⟨n1, n2, n3⟩ := day_nums hL
  rw [dec1 (by omega) x0, Int.toNat_of_nonneg (by omega)] at n1
  rw [dec1 (by omega) x1, Int.toNat_of_nonneg (by omega)] at n2
  rw [dec1 (by omega) x2, Int.toNat_of_nonneg (by omega)] at n3
  have hn : 0 < d → nm s 11 s.size = q := fun c => by
    rw [nm_L hL _ _ (Nat.le_refl _)]
    rw [if_pos c] at hr
    rw [← hr]
    have e : (List.drop 11 (l10 c0 c1 c2 c3 c4 c5 c6 c7 (46 :: decL q d))) = decL q d := rfl
    rw [e, List.take_of_length_le (by rw [decL_len, sz, if_pos c]; omega), dec_val hq]
  have dp : dayP s := by
    refine ⟨sz10, by rw [sz]; split <;> omega, sz20, ?_, fun h => ?_⟩
    · refine like10 (a := c0) (b := c1) (c := c2) (d := c3) (e := c4) (f := c5) (g := c6) (h := c7) ?_ i0 i1 i2 i3 i4 i5 i6 i7
      rw [ext_L _ _ _ (by omega), hL]
      rfl
    · have c : 0 < d := by rw [sz] at h; split at h <;> omega
      refine ⟨?_, by rw [hn c]; omega⟩
      rw [bt_L s 10 (by omega), hL, ← hr, if_pos c]
      rfl
  have pv : partV s = P := by
    unfold partV
    by_cases c : 0 < d
    · rw [if_neg (by rw [sz, if_pos c]; omega), hn c, n1, n2, n3, eL]
      have : s.size - 11 = d := by rw [sz, if_pos c]; omega
      rw [this]
      exact e
    · rw [if_pos (by rw [sz, if_neg c])]
      obtain rfl : d = 0 := by omega
      obtain rfl : q = 0 := by omega
      have : upI (((0 : Nat) : Int) * L) ((10 ^ 0 : Nat) : Int) = 0 := by simp [upI]
      rw [← e]
      exact this.symm
  refine ⟨P, Or.inl ⟨⟨dp, ?_⟩, ?_, rfl⟩, Or.inr (Or.inr ⟨by omega, by omega, Int.le_trans b1 lo, Int.lt_of_lt_of_le hi b2, _, _, _, z, k, dy, ?_, rfl⟩), sz20, fun P0 h0 => mn P0 ?_, ?_⟩
  · rw [n1, n2, n3]
    exact ⟨hw, by omega, by omega, by omega, by omega, by omega, by omega, by omega, Or.inl (by omega)⟩
  · unfold dayV
    rw [n1, n2, n3, pv]
    unfold timeOf
    omega
  · rw [dl, eL, hs]
    have : dn y m D - mo y m + 1 = D := by rw [dn_mo]; omega
    rw [this]
    congr 1
    unfold fracQ
    rw [show bgv (dn y m D) y m + (P : Int) - bgv (dn y m D) y m = P by omega]
    simp only [Int.toNat_natCast]
    exact eq.symm
  · rw [eL] at h0
    have e2 : ((10 ^ d : Nat) : Int) = 10 ^ d := by simp
    rw [← e2, ← Int.natCast_mul, ← Int.natCast_ediv] at h0
    omega
  · rw [eL]
    have e2 : ((10 ^ d : Nat) : Int) = 10 ^ d := by simp
    have e3 : q * L ≤ P * 10 ^ d := by rw [← eq]; exact Nat.div_mul_le_self _ _
    rw [← e2, ← Int.natCast_mul, ← Int.natCast_mul]
    exact Int.ofNat_le.2 e3
theorem day_core {s : ByteArray} {y m D : Int} {q d : Nat} (hd : d ≤ 9) (hw : wholeP y m D) (hq : q < 10 ^ d) (hs : s = daytS y.toNat m.toNat D.toNat q d) :
    ∃ P : Nat, PDayIs s (bgv (dn y m D) y m + P) 0 ∧ DayIs (bgv (dn y m D) y m + P) d s 0 ∧ s.size ≤ 20 ∧ (∀ P0 : Nat, (q : Int) = P0 * 10 ^ d / dayLen y m D → P ≤ P0) := by
  obtain ⟨P, a, b, c, d, _⟩ := day_core2 hd hw hq hs
  exact ⟨P, a, b, c, d⟩
theorem day_parse {t d : Int} {s : ByteArray} (a : DayIs t d s 0) : ∃ v, PDayIs s v 0 ∧ v ≤ t ∧ DayIs v d s 0 ∧ s.size ≤ 20 := by
  rcases a with ⟨_, _, c⟩ | ⟨_, _, _, _, c⟩ | ⟨d0, d6, b1, b2, n, y, m, z, k, hd, hs, _⟩
  · omega
  · omega
  obtain ⟨d, rfl⟩ : ∃ e : Nat, d = e := ⟨d.toNat, by omega⟩
  rw [Int.toNat_natCast] at *
  have hw : wholeP y m (n - mo y m + 1) := ⟨hd.y1, by have := hd.y2; omega, hd.ym.m1, hd.ym.m12, by have := hd.ym.lo; omega, by have := hd.ym.hi; omega⟩
  have e : dn y m (n - mo y m + 1) = n := by rw [dn_mo]; omega
  obtain ⟨P0, L, T, p1, p2, p3, p4, p5, p6, p7, p8, p9, p10, p11, p12⟩ := part_nat hd d (by omega)
  have eL := day_diff hw (by rw [e]; exact hd.zk)
  rw [e, p2] at eL
  rw [p8, p3] at hs
  rw [p3] at p10
  obtain ⟨P, q1, q2, q3, q4⟩ := day_core (by omega) hw p10 hs
  rw [e] at q1 q2
  refine ⟨bgv n y m + P, q1, ?_, q2, q3⟩
  have := q4 P0 (by
    rw [← eL]
    have e2 : ((10 ^ d : Nat) : Int) = 10 ^ d := by simp
    rw [← e2, ← Int.natCast_mul, ← Int.natCast_ediv])
  omega
theorem parse_day {s : ByteArray} {v : Int} (a : PDayIs s v 0) : DayIs v (if 0 ≤ (s.size : Int) - 11 then (s.size : Int) - 11 else 0) s 0 ∧ s.size ≤ 20 := by
  have a' := a
  rcases a with ⟨⟨⟨t1, t2, t3, t5, t6⟩, ok⟩, hv, _⟩ | ⟨_, _, c⟩
  · refine ⟨?_, t3⟩
    obtain ⟨c0, c1, c2, c3, c4, c5, c6, c7, r, hL, i0, i1, i2, i3, i4, i5, i6, i7⟩ := split10 (by omega) t5
    have sz : s.size = 10 + r.length := by have := congrArg List.length hL; simp at this; omega
    obtain ⟨n1, n2, n3⟩ := day_nums hL
    have hw := ok.1
    have ed : (if 0 ≤ (s.size : Int) - 11 then (s.size : Int) - 11 else 0) = ((s.size - 11 : Nat) : Int) := by split <;> omega
    have key : ∃ q, q < 10 ^ (s.size - 11) ∧ (if 0 < s.size - 11 then 46 :: decL q (s.size - 11) else []) = r := by
      match r, sz with
      | [], sz => exact ⟨0, Nat.pow_pos (by omega), by rw [if_neg (by simp at sz; omega)]⟩
      | y :: T, sz =>
        have sz : s.size = 11 + T.length := by simp at sz; omega
        obtain ⟨p1, p2⟩ := t6 (by omega)
        rw [bt_L s 10 (by omega), hL] at p1
        have hy : y = 46 := u8_val (n := 46) (by omega) p1
        subst hy
        have eN : nm s 11 s.size = numV T := by
          rw [nm_L hL _ _ (Nat.le_refl _)]
          have e : (List.drop 11 (l10 c0 c1 c2 c3 c4 c5 c6 c7 (46 :: T))) = T := rfl
          rw [e, List.take_of_length_le (by omega)]
        have aT : allD T := (numV_nn T).1 (by rw [← eN]; exact p2)
        have hb := numL_bd T T.length (Nat.le_refl _) (by rw [List.take_length]; exact aT)
        rw [List.take_length] at hb
        have := dec_of aT
        have eT : s.size - 11 = T.length := by omega
        refine ⟨(numL T).toNat, ?_, ?_⟩
        · rw [eT]
          have e : ((10 ^ T.length : Nat) : Int) = 10 ^ T.length := by simp
          omega
        · rw [if_pos (by omega), eT, this]
    obtain ⟨q, hq, hr⟩ := key
    have hs : s = daytS (nm s 0 4).toNat (nm s 5 7).toNat (nm s 8 10).toNat q (s.size - 11) := by
      apply toL_inj
      rw [dayt_L, n1, n2, n3, val4 i0 i1 i2 i3, val2 i4 i5, val2 i6 i7, hr, hL]
      rfl
    obtain ⟨P, q1, q2, _, _⟩ := day_core (by omega) hw hq hs
    obtain ⟨ev, _⟩ := a'.uniq q1
    rw [ed, ev]
    exact q2
  · omega
end At
end Go.Proofs.YtafeigpmldgifaaDoor
/-
  The walk of ParseDay of package moment.
-/
namespace Go.Proofs.YtafeigpmldgifaaDoor
namespace Ap
open Go.RowKit Lw Go.Proofs.YtafeigpmldgifaaDoor.Mp

def PDayPost (s : ByteArray) (w : World) (e : Ending) (w' : World) : Prop := ∃ t c : Int, e = .returned (.tuple #[.int .i64 t, .int .i64 c]) ∧ PDayIs s t c ∧ Below w.heap.size w w'
theorem pday_not {s : ByteArray} (h : ¬ progD s) : PDayIs s 0 12 := Or.inr ⟨fun g => h (day_prog g.1), rfl, rfl⟩
theorem time_bd {y m d : Int} (hw : wholeP y m d) : -1000000000000000 ≤ timeOf y m d 0 0 0 0 ∧ timeOf y m d 0 0 0 0 ≤ 4000000000000000 := by
  have r := wholeP_range hw
  have b := bgv_bd (dn y m d) y m (by omega) (by omega)
  unfold timeOf
  omega
end Ap
end Go.Proofs.YtafeigpmldgifaaDoor
/-
  Plain facts of MomentNames: what the calls return at its constants; no walk here.
-/
namespace Go.Proofs.YtafeigpmldgifaaDoor
namespace At
open Go.RowKit Lw Ap Go.Proofs.YtafeigpmldgifaaDoor.Mp Go.Proofs.YtafeigpmldgifaaDoor.Mw

instance (y m d h i s u : Int) : Decidable (fromOk y m d h i s u) := by unfold fromOk wholeP leapday; infer_instance
instance (s : ByteArray) : Decidable (textP s) := by unfold textP; infer_instance
instance (s : ByteArray) : Decidable (okText s) := by unfold okText; infer_instance
instance (s : ByteArray) : Decidable (dayP s) := by unfold dayP; infer_instance
instance (s : ByteArray) : Decidable (okDay s) := by unfold okDay; infer_instance
theorem from_k {y m d h i s u : Int} (t : Int) (a : fromOk y m d h i s u) (b : timeOf y m d h i s u = t) : FromIs y m d h i s u t 0 := Or.inl ⟨a, b.symm, rfl⟩
theorem from_n {y m d h i s u : Int} (a : ¬ fromOk y m d h i s u) : FromIs y m d h i s u 0 2 := Or.inr ⟨a, rfl, rfl⟩
theorem to_k {y m d h i s u t : Int} (a : fromOk y m d h i s u) (b : timeOf y m d h i s u = t) : ToIs t y m d h i s u 0 := (from_k t a b).back
theorem to_n {t : Int} (h : t < bgv (-10227) 1972 1 ∨ bgv 36525 2100 1 ≤ t) : ToIs t 0 0 0 0 0 0 0 16 := Or.inl ⟨h, rfl, rfl, rfl, rfl, rfl, rfl, rfl, rfl⟩
theorem text_k {y m d h i s u t : Int} {dd : Nat} {x : ByteArray} (hd : dd ≤ 6) (a : fromOk y m d h i s u) (b : timeOf y m d h i s u = t)
    (e : x = textS y.toNat m.toNat d.toNat h.toNat i.toNat s.toNat u.toNat dd) : TextIs t dd x 0 := by
  subst b
  obtain ⟨z, k, hd, e1, e2, e3, e4, e5⟩ := from_to a
  have b1 := bgv_mono hd.ym ym_72 hd.n1
  have b2 := bgv_mono ym_00 hd.zk (by have := hd.n2; omega)
  refine Or.inr (Or.inr ⟨by omega, by omega, Int.le_trans b1 hd.lo, Int.lt_of_lt_of_le hd.hi b2, _, _, _, z, k, hd, ?_, rfl⟩)
  rw [← e1, ← e2, ← e3, ← e4, ← e5]
  exact e
theorem day_k {y m d h i s u t : Int} {dd : Nat} {x : ByteArray} (hd : dd ≤ 9) (a : fromOk y m d h i s u) (b : timeOf y m d h i s u = t)
    (e : x = daytS y.toNat m.toNat d.toNat (fracQ (t - bgv (dn y m d) y m) (dayLen y m d) dd) dd) : DayIs t dd x 0 := by
  subst b
  obtain ⟨z, k, hd, e1, e2, e3, e4, e5⟩ := from_to a
  have b1 := bgv_mono hd.ym ym_72 hd.n1
  have b2 := bgv_mono ym_00 hd.zk (by have := hd.n2; omega)
  refine Or.inr (Or.inr ⟨by omega, by omega, Int.le_trans b1 hd.lo, Int.lt_of_lt_of_le hd.hi b2, _, _, _, z, k, hd, ?_, rfl⟩)
  rw [← e1, day_diff a.1 hd.zk]
  exact e
theorem parse_k {s : ByteArray} {t : Int} (a : okText s) (b : textV s = t) : ParseIs s t 0 := Or.inl ⟨a, b.symm, rfl⟩
theorem parse_n {s : ByteArray} (a : ¬ okText s) : ParseIs s 0 12 := Or.inr ⟨a, rfl, rfl⟩
theorem pday_k {s : ByteArray} {t : Int} (a : okDay s) (b : dayV s = t) : PDayIs s t 0 := Or.inl ⟨a, b.symm, rfl⟩
theorem pday_n {s : ByteArray} (a : ¬ okDay s) : PDayIs s 0 12 := Or.inr ⟨a, rfl, rfl⟩
/-! ### The constants of alive -/
theorem k_to0 : ToIs 0 2000 1 1 11 58 55 816000 0 := to_k (by decide +kernel) (by decide +kernel)
theorem k_from : FromIs 2016 12 31 23 59 60 0 536500868184000 0 := from_k _ (by decide +kernel) (by decide +kernel)
/-- 2017-01-01T00:00:00Z -/
abbrev sA : ByteArray := ⟨#[50, 48, 49, 55, 45, 48, 49, 45, 48, 49, 84, 48, 48, 58, 48, 48, 58, 48, 48, 90]⟩
theorem k_parse : ParseIs sA 536500869184000 0 := parse_k (by decide +kernel) (by decide +kernel)
/-- 2000 01 01.499 -/
abbrev sB : ByteArray := ⟨#[50, 48, 48, 48, 32, 48, 49, 32, 48, 49, 46, 52, 57, 57]⟩
theorem k_day : DayIs 0 3 sB 0 := day_k (dd := 3) (by decide) (y := 2000) (m := 1) (d := 1) (h := 11) (i := 58) (s := 55) (u := 816000) (by decide +kernel) (by decide +kernel) (by decide +kernel)
end At
end Go.Proofs.YtafeigpmldgifaaDoor
/-
  Reading digits: number of the reference, value of package angle.
-/
namespace Go.Proofs.YtafeigpmldgifaaDoor
namespace Gp
open Go.RowKit Lw

def numL (l : List UInt8) : Int := l.foldl (fun n c => 10 * n + ((c.toNat : Int) - 48)) 0
def allD (l : List UInt8) : Prop := ∀ c ∈ l, 48 ≤ (c.toNat : Int) ∧ (c.toNat : Int) ≤ 57
instance (l : List UInt8) : Decidable (allD l) := by unfold allD; infer_instance
/-- The number that a string of digits is, or -1. -/
def numV (l : List UInt8) : Int := if allD l then numL l else -1
theorem numL_snoc (l : List UInt8) (c : UInt8) : numL (l ++ [c]) = 10 * numL l + ((c.toNat : Int) - 48) := by simp [numL]
theorem allD_snoc {l : List UInt8} {c : UInt8} (h : allD l) (h1 : 48 ≤ (c.toNat : Int)) (h2 : (c.toNat : Int) ≤ 57) : allD (l ++ [c]) := fun x hx => by
  rcases List.mem_append.1 hx with g | g
  · exact h x g
  · have := List.mem_singleton.1 g; subst this; exact ⟨h1, h2⟩
theorem take_snoc (s : ByteArray) (k : Nat) (h : k < s.size) : s.data.toList.take (k + 1) = s.data.toList.take k ++ [s[k]] := by
  rw [List.take_succ_eq_append_getElem (by simpa using h)]; rfl
theorem take_all (s : ByteArray) (k : Nat) (h : ¬ k < s.size) : s.data.toList.take k = s.data.toList := List.take_of_length_le (by simp; omega)
theorem numL_bd (l : List UInt8) : ∀ k, k ≤ l.length → allD (l.take k) → 0 ≤ numL (l.take k) ∧ numL (l.take k) < 10 ^ k
  | 0, _, _ => by simp [numL]
  | k + 1, hk, h => by
    have e : l.take (k + 1) = l.take k ++ [l[k]] := List.take_succ_eq_append_getElem (by omega)
    rw [e] at h ⊢
    have ih := numL_bd l k (by omega) (fun x hx => h x (List.mem_append_left _ hx))
    have hc := h l[k] (List.mem_append_right _ (List.mem_singleton.2 rfl))
    rw [numL_snoc, Int.pow_succ]
    omega
theorem pow_17 : ∀ k : Nat, k < 18 → (10 : Int) ^ k ≤ 100000000000000000 := by decide
theorem numL_17 (s : ByteArray) (k : Nat) (hk : k ≤ s.size) (h18 : k < 18) (h : allD (s.data.toList.take k)) : 0 ≤ numL (s.data.toList.take k) ∧ numL (s.data.toList.take k) < 100000000000000000 := by
  have := numL_bd s.data.toList k (by simpa using hk) h
  have := pow_17 k h18
  omega
theorem numV_not (s : ByteArray) (k : Nat) (hk : k < s.size) (h : ¬ (48 ≤ (s[k].toNat : Int) ∧ (s[k].toNat : Int) ≤ 57)) : numV s.data.toList = -1 := by
  unfold numV
  rw [if_neg]
  intro g
  exact h (g s[k] (by
    have : s[k] = s.data.toList[k]'(by simpa using hk) := rfl
    rw [this]; exact List.getElem_mem _))
theorem numV_all (s : ByteArray) (k : Nat) (hk : ¬ k < s.size) (h : allD (s.data.toList.take k)) : numL (s.data.toList.take k) = numV s.data.toList := by
  rw [take_all s k hk] at h ⊢
  unfold numV
  rw [if_pos h]
theorem byte_bd (b : UInt8) : 0 ≤ (b.toNat : Int) ∧ (b.toNat : Int) < 256 := by have := b.toNat_lt; omega
theorem ret_i {a b : Int} (h : a = b) : Ending.returned (.int .i64 a) = .returned (.int .i64 b) := by rw [h]
theorem val_i {a b : Int} (h : a = b) : Value.int .i64 a = .int .i64 b := by rw [h]

theorem rune_not {s : ByteArray} {k : Nat} (hlt : k < s.size) : (Utf8.decode s k = ((s[k]'hlt).toNat, 1)) ∨ (¬ (48 ≤ (s[k].toNat : Int) ∧ (s[k].toNat : Int) ≤ 57) ∧ 128 ≤ ((Utf8.decode s k).1 : Int) ∧ ((Utf8.decode s k).1 : Int) ≤ 2147483647) := by
  by_cases ha : (s[k]'hlt).toNat < 128
  · exact Or.inl (decode_ascii s k hlt ha)
  · have := (decode_high s k hlt (by omega)).1
    have := decode_le s k
    exact Or.inr ⟨by omega, by omega, by omega⟩

end Gp
end Go.Proofs.YtafeigpmldgifaaDoor
/-
  Powers of ten, rounding, the common divisor: package angle and the reference.
-/
namespace Go.Proofs.YtafeigpmldgifaaDoor
namespace Gp
open Go.RowKit Lw

/-- A power of ten. -/
def tenI (k : Nat) : Int := (10 ^ k : Nat)
theorem tenI_s (k : Nat) : tenI (k + 1) = tenI k * 10 := by unfold tenI; rw [Nat.pow_succ]; omega
theorem tenI_bd : ∀ k : Nat, k ≤ 18 → 1 ≤ tenI k ∧ tenI k ≤ 1000000000000000000 := by decide
theorem tenI_17 : ∀ k : Nat, k < 18 → 1 ≤ tenI k ∧ tenI k ≤ 100000000000000000 := by decide

/-- Half to even. -/
def rndI (a u : Int) : Int := a / u + (if u < 2 * (a % u) ∨ (2 * (a % u) = u ∧ (a / u) % 2 = 1) then 1 else 0)
end Gp
end Go.Proofs.YtafeigpmldgifaaDoor
/-
  Rounding: package angle and the reference.
-/
namespace Go.Proofs.YtafeigpmldgifaaDoor
namespace Gp
open Go.RowKit Lw

theorem and_one (q : Nat) (hq : q ≤ 1000000000000000000) : bits .and .i64 (q : Int) 1 = (q : Int) % 2 := by
  show IntKind.i64.wrap ((BitVec.ofInt 64 (q : Int) &&& BitVec.ofInt 64 1).toNat : Int) = _
  have e : (BitVec.ofInt 64 (q : Int)).toNat = q := ofInt_u64 q (by omega)
  have e1 : (BitVec.ofInt 64 1).toNat = 1 := by decide
  rw [BitVec.toNat_and, e, e1, nat_mask1, IntWalk.i64_in _ (by omega)]
  omega
end Gp
end Go.Proofs.YtafeigpmldgifaaDoor
/-
  The reference's common divisor with 3,600,000,000.
-/
namespace Go.Proofs.YtafeigpmldgifaaDoor
namespace Gp
open Go.RowKit Lw

end Gp
end Go.Proofs.YtafeigpmldgifaaDoor
/-
  The parts of a text of hours or degrees: the reference.
-/
namespace Go.Proofs.YtafeigpmldgifaaDoor
namespace Gp
open Go.RowKit Lw

/-- The number of two digits at a place, or -1. -/
def two (s : ByteArray) (i : Nat) : Int := numV (s.extract i (i + 2)).data.toList
theorem at_of (s : ByteArray) (i : Nat) (h : i < s.size) : ((s.get! i).toNat : Int) = (s[i].toNat : Int) := by simp [ByteArray.get!, getElem!_pos, h]; rfl
/-- Where the spaces and the point stand. -/
def shapeP (s : ByteArray) : Prop := 8 ≤ s.size ∧ ((s.get! 2).toNat : Int) = 32 ∧ ((s.get! 5).toNat : Int) = 32 ∧ s.size ≠ 9 ∧ s.size ≤ 15 ∧ (8 < s.size → ((s.get! 8).toNat : Int) = 46)
def restOf (s : ByteArray) : ByteArray := if s.size = 8 then ByteArray.empty else s.extract 9 s.size
def validP (s : ByteArray) : Prop := shapeP s ∧ 0 ≤ two s 0 ∧ (0 ≤ two s 3 ∧ two s 3 ≤ 59) ∧ (0 ≤ two s 6 ∧ two s 6 ≤ 59) ∧ 0 ≤ numV (restOf s).data.toList
/-- What parts returns: where the text is none, its numbers are anything. -/
def PartsIs (s : ByteArray) (a b c : Int) (r : ByteArray) (ok : Bool) : Prop := (ok = true ∧ validP s ∧ a = two s 0 ∧ b = two s 3 ∧ c = two s 6 ∧ r = restOf s) ∨ (ok = false ∧ ¬ validP s)
abbrev ar3 (a b c : Int) : List Value := [.int .i64 a, .int .i64 b, .int .i64 c]
def PartsPost (s : ByteArray) (w : World) (e : Ending) (w' : World) : Prop := ∃ (a b c : Int) (r : ByteArray) (ok : Bool), e = .returned (.tuple #[.agg #[.int .i64 a, .int .i64 b, .int .i64 c], .string r, .bool ok]) ∧ PartsIs s a b c r ok ∧ Below w.heap.size w w'

end Gp
end Go.Proofs.YtafeigpmldgifaaDoor
/-
  The parts of a text of hours or degrees: the reference, where spaces and point stand right.
-/
namespace Go.Proofs.YtafeigpmldgifaaDoor
namespace Gp
open Go.RowKit Lw

theorem two_eq (s : ByteArray) (i : Nat) : two s i = numV (List.take 2 (List.drop i s.data.toList)) := by
  unfold two; simp
theorem fr_at {w : World} {b n j : Nat} (h : w.there b 0 n) (hj : j < n) : w.frozen? ⟨b, 0 + j, none⟩ = false := (h j hj).2
theorem there3_set {w : World} {b n : Nat} (h : w.there b 0 n) (a : Addr) (v : Value) : (w.setCell a v).there b 0 n := fun j hj => by
  refine ⟨World.isSome_setCells a.block [v] a.off w _ (h j hj).1 |> fun x => ?_, by rw [World.frozen?_setCell]; exact (h j hj).2⟩
  obtain ⟨u, hu⟩ := Option.isSome_iff_exists.1 (h j hj).1
  obtain ⟨v', hv'⟩ := cell?_setCell_some (w := w) (p := a) (x := v) (q := ⟨b, 0 + j, none⟩) (v := u) hu
  rw [hv']; rfl

theorem cell_at {w : World} {b n j : Nat} (h : w.there b 0 n) (hj : j < n) : ∃ v, w.cell? ⟨b, 0 + j, none⟩ = some v := Option.isSome_iff_exists.1 (h j hj).1
/-- What lies at an address. -/
def cellOf (w : World) (p : Addr) : Value := (w.cell? p).getD undef
theorem cellOf_some {w : World} {p : Addr} (h : (w.cell? p).isSome = true) : w.cell? p = some (cellOf w p) := by
  obtain ⟨v, hv⟩ := Option.isSome_iff_exists.1 h
  rw [cellOf, hv]; rfl
theorem cellOf_set {w : World} {p : Addr} (h : w.cell? p = some (cellOf w p)) (q : Addr) (v : Value) : (w.setCell q v).cell? p = some (cellOf (w.setCell q v) p) := by
  obtain ⟨v', hv'⟩ := cell?_setCell_some (w := w) (p := q) (x := v) (q := p) h
  exact cellOf_some (by rw [hv']; rfl)
theorem cellOf_drew {w : World} {p : Addr} (h : w.cell? p = some (cellOf w p)) : w.drew.cell? p = some (cellOf w.drew p) := h
/-- What the last region needs of memory. -/
def LastS (w' : World) (B : Nat) (a b c : Int) : Prop := w'.cell? ⟨B + 1, 0, none⟩ = some (.int .i64 a) ∧ w'.cell? ⟨B + 1, 1, none⟩ = some (.int .i64 b) ∧ w'.cell? ⟨B + 1, 2, none⟩ = some (.int .i64 c) ∧ w'.frozen? ⟨B, 0, none⟩ = false ∧ w'.frozen? ⟨B, 1, none⟩ = false ∧ w'.frozen? ⟨B, 2, none⟩ = false ∧ w'.cell? ⟨B, 0, none⟩ = some (cellOf w' ⟨B, 0, none⟩) ∧ w'.cell? ⟨B, 1, none⟩ = some (cellOf w' ⟨B, 1, none⟩) ∧ w'.cell? ⟨B, 2, none⟩ = some (cellOf w' ⟨B, 2, none⟩)
theorem lastS_drew {w : World} {B : Nat} {a b c : Int} (h : LastS w B a b c) : LastS w.drew B a b c := h
theorem held_set {w : World} {B : Nat} {a b c : Int} (h : LastS w B a b c) (q : Addr) (hq : q.block = B) (v : Value) : LastS (w.setCell q v) B a b c := by
  obtain ⟨q0, q1, q2, e0, e1, e2, d0, d1, d2⟩ := h
  have ne : ∀ i : Nat, q ≠ ⟨B + 1, i, none⟩ := fun i g => by rw [g] at hq; simp at hq
  refine ⟨?_, ?_, ?_, by rw [World.frozen?_setCell]; exact e0, by rw [World.frozen?_setCell]; exact e1, by rw [World.frozen?_setCell]; exact e2, cellOf_set d0 _ _, cellOf_set d1 _ _, cellOf_set d2 _ _⟩
  · rw [World.cell?_setCell_other _ _ _ _ (ne 0)]; exact q0
  · rw [World.cell?_setCell_other _ _ _ _ (ne 1)]; exact q1
  · rw [World.cell?_setCell_other _ _ _ _ (ne 2)]; exact q2
theorem held_set3 {w : World} {B : Nat} {a b c : Int} (h : LastS w B a b c) (x y z : Value) : LastS (((w.setCell ⟨B, 0, none⟩ x).setCell ⟨B, 1, none⟩ y).setCell ⟨B, 2, none⟩ z).drew B a b c := held_set (held_set (held_set h _ rfl _) _ rfl _) _ rfl _
theorem range_set {w : World} {b : Nat} {cs : List Value} (h : w.rangeAt b 0 cs) (j : Nat) (hj : j < cs.length) (v : Value) : (w.setCell ⟨b, j, none⟩ v).rangeAt b 0 (cs.set j v) := fun i x hx => by
  have hu : w.cell? ⟨b, j, none⟩ = some cs[j] := by have := h j cs[j] (List.getElem?_eq_getElem hj); simpa using this
  have hi : i < cs.length := by have := (List.getElem?_eq_some_iff.1 hx).1; simpa using this
  rw [Nat.zero_add]
  by_cases e : j = i
  · subst e
    rw [World.cell?_setCell_same _ _ _ hu]
    rw [List.getElem?_set_self hj] at hx
    exact hx
  · rw [World.cell?_setCell_other _ _ _ _ (by intro g; injection g with _ g2 _; exact e g2)]
    rw [List.getElem?_set_ne e] at hx
    have := h i x hx
    rwa [Nat.zero_add] at this
/-- What the loop keeps: the two rows, the numbers read so far. -/
def Kept (s : ByteArray) (w : World) (k : Nat) (a b c : Int) (wr : World) : Prop :=
  wr.rangeAt (w.heap.size + 1) 0 (ar3 a b c) ∧ wr.there (w.heap.size + 1) 0 3 ∧ wr.there w.heap.size 0 3 ∧ w.heap.size + 1 < wr.heap.size ∧ Below w.heap.size w wr ∧
      ((0 < k → a = two s 0 ∧ 0 ≤ a) ∧ (1 < k → b = two s 3 ∧ 0 ≤ b ∧ b ≤ 59) ∧ (2 < k → c = two s 6 ∧ 0 ≤ c ∧ c ≤ 59))
theorem kept_start (s : ByteArray) (w : World) (C : Array Value) (hC : C = (ar3 0 0 0).toArray) (t : TypeId) : Kept s w 0 0 0 0 ((w.alloc (.cells C t)).alloc (.cells C t)) := by
  subst hC
  refine ⟨?_, ?_, ?_, by simp, ((Below.refl _ _).alloc (Nat.le_refl _) _).alloc (by simp) _, by omega, by omega, by omega⟩
  · have := rangeAt_new (w.alloc (.cells (ar3 0 0 0).toArray t)) (ar3 0 0 0) t
    simpa using this
  · have := there_new (w.alloc (.cells (ar3 0 0 0).toArray t)) (ar3 0 0 0).toArray t 3 (by simp)
    simpa using this
  · exact there_below (there_new w (ar3 0 0 0).toArray t 3 (by simp)) ((Below.refl _ _).alloc (Nat.le_refl _) _) (by simp)
theorem kept_set {s : ByteArray} {w wr : World} {k : Nat} {a b c : Int} (h : Kept s w k a b c wr) (j : Nat) (hj : j < 3) (v : Int) (a' b' c' : Int) (e : (ar3 a b c).set j (.int .i64 v) = ar3 a' b' c')
    (k' : Nat) (hk : (0 < k' → a' = two s 0 ∧ 0 ≤ a') ∧ (1 < k' → b' = two s 3 ∧ 0 ≤ b' ∧ b' ≤ 59) ∧ (2 < k' → c' = two s 6 ∧ 0 ≤ c' ∧ c' ≤ 59)) :
    Kept s w k' a' b' c' (wr.setCell ⟨w.heap.size + 1, j, none⟩ (.int .i64 v)) := by
  obtain ⟨R, T1, T0, hz, hB, _⟩ := h
  refine ⟨e ▸ range_set R j (by simpa using hj) _, there3_set T1 _ _, there3_set T0 _ _, by simpa using hz, hB.setCell (by simp) _, hk⟩
/-- What lies in the row that is returned, where one number of the three has just been stored. -/
theorem out_set {w wr : World} (T0 : wr.there w.heap.size 0 3) (hB : Below w.heap.size w wr) (j : Nat) (v : Value) (x y z : Int) :
    (((wr.setCell ⟨w.heap.size + 1, j, none⟩ v).setCells w.heap.size 0 (ar3 x y z)).rangeAt w.heap.size 0 (ar3 x y z)) ∧ Below w.heap.size w ((wr.setCell ⟨w.heap.size + 1, j, none⟩ v).setCells w.heap.size 0 (ar3 x y z)) :=
  ⟨World.rangeAt_setCells_same _ _ _ _ (there3_set T0 _ _), below_setCells _ (Nat.le_refl _) _ _ _ (hB.setCell (by simp) _)⟩
theorem not_valid0 {s : ByteArray} (h : numV (List.take 2 s.data.toList) < 0) : ¬ validP s := fun g => by
  have : 0 ≤ numV (List.take 2 s.data.toList) := by have := g.2.1; rw [two_eq] at this; exact this
  omega
theorem not_valid3 {s : ByteArray} (h : numV (List.take 2 (List.drop 3 s.data.toList)) < 0 ∨ 59 < numV (List.take 2 (List.drop 3 s.data.toList))) : ¬ validP s := fun g => by
  have := g.2.2.1; rw [two_eq] at this; omega
theorem not_valid6 {s : ByteArray} (h : numV (List.take 2 (List.drop 6 s.data.toList)) < 0 ∨ 59 < numV (List.take 2 (List.drop 6 s.data.toList))) : ¬ validP s := fun g => by
  have := g.2.2.2.1; rw [two_eq] at this; omega

theorem parts_end {s : ByteArray} {a b c : Int} (h : 8 < s.size) (J : validP s ↔ 0 ≤ numV (restOf s).data.toList) (E : a = two s 0 ∧ b = two s 3 ∧ c = two s 6) :
    PartsIs s a b c (s.extract 9 s.size) (decide (0 ≤ numV (List.take (s.size - 9) (List.drop 9 s.data.toList)))) := by
  have hr : restOf s = s.extract 9 s.size := if_neg (by omega)
  have he : (s.extract 9 s.size).data.toList = List.take (s.size - 9) (List.drop 9 s.data.toList) := by simp
  rw [hr, he] at J
  by_cases g : 0 ≤ numV (List.take (s.size - 9) (List.drop 9 s.data.toList))
  · exact Or.inl ⟨by simpa using g, J.2 g, E.1, E.2.1, E.2.2, hr.symm⟩
  · exact Or.inr ⟨by simpa using g, fun v => g (J.1 v)⟩
theorem restOf_8 {s : ByteArray} (h : s.size = 8) : restOf s = ByteArray.empty := if_pos h
theorem restOf_9 {s : ByteArray} (h : 8 < s.size) : restOf s = s.extract 9 s.size := if_neg (by omega)
theorem numV_empty : numV ByteArray.empty.data.toList = 0 := rfl
end Gp
end Go.Proofs.YtafeigpmldgifaaDoor
/-
  What the angle of a text is: hours and degrees with parts.
-/
namespace Go.Proofs.YtafeigpmldgifaaDoor
namespace Gp
open Go.RowKit Lw

theorem numV_bd (l : List UInt8) : -1 ≤ numV l ∧ numV l < 10 ^ l.length := by
  unfold numV
  have p : (0 : Int) < 10 ^ l.length := Int.pow_pos (by omega)
  split
  · rename_i h
    have := numL_bd l l.length (Nat.le_refl _) (by rw [List.take_length]; exact h)
    rw [List.take_length] at this
    omega
  · omega
theorem numV_6 {l : List UInt8} (h : l.length ≤ 6) : -1 ≤ numV l ∧ numV l ≤ 999999 := by
  have a := numV_bd l
  have : ∀ k : Nat, k ≤ 6 → (10 : Int) ^ k ≤ 1000000 := by decide
  have := this _ h
  omega
theorem two_bd (s : ByteArray) (i : Nat) : -1 ≤ two s i ∧ two s i ≤ 99 := by
  have a := numV_bd ((s.extract i (i + 2)).data.toList)
  have b : ((s.extract i (i + 2)).data.toList).length ≤ 2 := by simp; omega
  have : ∀ k : Nat, k ≤ 2 → (10 : Int) ^ k ≤ 100 := by decide
  have := this _ b
  unfold two
  omega
theorem rest_size {s : ByteArray} (h : s.size ≤ 15) : (restOf s).size ≤ 6 := by
  unfold restOf; split
  · simp
  · simp; omega
theorem rest_size_i {s : ByteArray} (h : s.size ≤ 15) : ((restOf s).data.toList).length ≤ 6 := by
  have := rest_size h
  simpa using this
/-- A whole number of seconds. -/
def secs (s : ByteArray) : Int := two s 0 * 3600 + two s 3 * 60 + two s 6
/-- The angle of a text whose second is so many micro-arcseconds. -/
def angV (s : ByteArray) (u : Int) : Int := secs s * u + numV (restOf s).data.toList * (u / tenI (restOf s).size)
theorem div_bd {u t : Int} (hu : 0 ≤ u) (ht : 1 ≤ t) : 0 ≤ u / t ∧ u / t ≤ u := ⟨Int.ediv_nonneg hu (by omega), Int.ediv_le_self _ hu⟩
theorem mul_bd {a b m n : Int} (h0 : 0 ≤ a) (h1 : a ≤ m) (g0 : 0 ≤ b) (g1 : b ≤ n) : 0 ≤ a * b ∧ a * b ≤ m * n :=
  ⟨Int.mul_nonneg h0 g0, Int.le_trans (Int.mul_le_mul_of_nonneg_right h1 g0) (Int.mul_le_mul_of_nonneg_left g1 (by omega))⟩
/-- What is known of the numbers of a text: letters in place of them. -/
theorem valid_letters {s : ByteArray} (h : validP s) (u : Int) (hu : 0 ≤ u) (hu2 : u ≤ 15000000) : ∃ V Q T : Int,
    numV (restOf s).data.toList = V ∧ u.tdiv (tenI (restOf s).size) = Q ∧ tenI (restOf s).size = T ∧ 0 ≤ V ∧ V ≤ 999999 ∧ 1 ≤ T ∧ 0 ≤ Q ∧ Q ≤ 15000000 ∧ 0 ≤ V * Q ∧ V * Q ≤ 14999985000000 ∧
    (restOf s).size ≤ 6 ∧ (0 ≤ two s 0 ∧ two s 0 ≤ 99) ∧ (0 ≤ two s 3 ∧ two s 3 ≤ 59) ∧ (0 ≤ two s 6 ∧ two s 6 ≤ 59) ∧
    Hid (angV s u = (two s 0 * 3600 + two s 3 * 60 + two s 6) * u + V * Q) := by
  obtain ⟨hs, h0, h3, h6, hr⟩ := h
  have h15 := hs.2.2.2.2.1
  have z := rest_size h15
  have v := numV_6 (rest_size_i h15)
  have t := (tenI_bd (restOf s).size (by omega)).1
  have e : u.tdiv (tenI (restOf s).size) = u / tenI (restOf s).size := Int.tdiv_eq_ediv_of_nonneg hu
  have q := div_bd hu t
  have p := mul_bd (a := numV (restOf s).data.toList) (b := u / tenI (restOf s).size) (m := 999999) (n := 15000000) hr v.2 q.1 (by omega)
  exact ⟨_, _, _, rfl, rfl, rfl, hr, v.2, t, by omega, by omega, by rw [e]; exact p.1, by rw [e]; exact p.2, z, ⟨h0, (two_bd s 0).2⟩, h3, h6, Lib.hid (by rw [e]; rfl)⟩
def RaIs (s : ByteArray) (v e : Int) : Prop := (validP s ∧ two s 0 ≤ 23 ∧ v = angV s 15000000 ∧ e = 0) ∨ (¬ (validP s ∧ two s 0 ≤ 23) ∧ v = 0 ∧ e = 12)
theorem RaIs.det {s : ByteArray} {v e v' e' : Int} (h : RaIs s v e) (g : RaIs s v' e') : v = v' ∧ e = e' := by
  rcases h with ⟨h1, h2, h3, h4⟩ | ⟨h1, h2, h3⟩ <;> rcases g with ⟨g1, g2, g3, g4⟩ | ⟨g1, g2, g3⟩
  · exact ⟨by rw [h3, g3], by rw [h4, g4]⟩
  · exact absurd ⟨h1, h2⟩ g1
  · exact absurd ⟨g1, g2⟩ h1
  · exact ⟨by rw [h2, g2], by rw [h3, g3]⟩
/-- The text of a declination: a sign, and the rest. -/
def signP (s : ByteArray) : Prop := 0 < s.size ∧ (((s.get! 0).toNat : Int) = 43 ∨ ((s.get! 0).toNat : Int) = 45)
def tailOf (s : ByteArray) : ByteArray := s.extract 1 s.size
def decOk (s : ByteArray) : Prop := signP s ∧ validP (tailOf s) ∧ two (tailOf s) 0 ≤ 90 ∧ angV (tailOf s) 1000000 ≤ 324000000000
def DecIs (s : ByteArray) (v e : Int) : Prop := (decOk s ∧ v = (if ((s.get! 0).toNat : Int) = 45 then -angV (tailOf s) 1000000 else angV (tailOf s) 1000000) ∧ e = 0) ∨ (¬ decOk s ∧ v = 0 ∧ e = 12)
theorem DecIs.det {s : ByteArray} {v e v' e' : Int} (h : DecIs s v e) (g : DecIs s v' e') : v = v' ∧ e = e' := by
  rcases h with ⟨h1, h3, h4⟩ | ⟨h1, h2, h3⟩ <;> rcases g with ⟨g1, g3, g4⟩ | ⟨g1, g2, g3⟩
  · exact ⟨by rw [h3, g3], by rw [h4, g4]⟩
  · exact absurd h1 g1
  · exact absurd g1 h1
  · exact ⟨by rw [h2, g2], by rw [h3, g3]⟩
end Gp
end Go.Proofs.YtafeigpmldgifaaDoor
/-
  Plain law of observations: names, checks, and what the columns of a line say; no walk here.
-/
namespace Go.Proofs.YtafeigpmldgifaaDoor
namespace Op
open Go.RowKit Lw Go.Proofs.YtafeigpmldgifaaDoor.Ap Go.Proofs.YtafeigpmldgifaaDoor.Mp

/-! ### Words -/
def dgP (c : Int) : Prop := 48 ≤ c ∧ c ≤ 57
def ltP (c : Int) : Prop := (65 ≤ c ∧ c ≤ 90) ∨ (97 ≤ c ∧ c ≤ 122)
instance (c : Int) : Decidable (dgP c) := by unfold dgP; infer_instance
instance (c : Int) : Decidable (ltP c) := by unfold ltP; infer_instance
def dgB (c : Int) : Bool := decide (dgP c)
def ltB (c : Int) : Bool := decide (ltP c)
/-- Digits and letters alone. -/
def wordP (l : List UInt8) : Prop := ∀ c ∈ l, dgP (c.toNat : Int) ∨ ltP (c.toNat : Int)
instance (l : List UInt8) : Decidable (wordP l) := by unfold wordP; infer_instance
def wordB (l : List UInt8) : Bool := decide (wordP l)
theorem wordP_snoc {l : List UInt8} {c : UInt8} (h : wordP l) (g : dgP (c.toNat : Int) ∨ ltP (c.toNat : Int)) : wordP (l ++ [c]) := fun x hx => by
  rcases List.mem_append.1 hx with hx | hx
  · exact h x hx
  · rw [List.mem_singleton.1 hx]; exact g
theorem word_not (s : ByteArray) (k : Nat) (hk : k < s.size) (h : ¬ (dgP (s[k].toNat : Int) ∨ ltP (s[k].toNat : Int))) : wordB s.data.toList = false := by
  refine decide_eq_false fun g => h (g _ ?_)
  have : s[k] = s.data.toList[k]'(by simpa using hk) := rfl
  rw [this]; exact List.getElem_mem _
theorem word_all (s : ByteArray) (k : Nat) (hk : ¬ k < s.size) (h : wordP (s.data.toList.take k)) : wordB s.data.toList = true := by
  rw [take_all s k hk] at h
  exact decide_eq_true h
/-- Digits alone, and at least one. -/
def digsP (l : List UInt8) : Prop := 0 < l.length ∧ allD l
instance (l : List UInt8) : Decidable (allD l) := by unfold allD; infer_instance
instance (l : List UInt8) : Decidable (digsP l) := by unfold digsP; infer_instance
def digsB (l : List UInt8) : Bool := decide (digsP l)
/-- The name of a numbered object. -/
def numbP (s : ByteArray) : Prop := s.size = 5 ∧ ((bt s 0 = 126 ∧ wordP (s.extract 1 5).data.toList) ∨ (wordP (s.extract 0 1).data.toList ∧ digsP (s.extract 1 5).data.toList))
instance (s : ByteArray) : Decidable (numbP s) := by unfold numbP; infer_instance
def numbB (s : ByteArray) : Bool := decide (numbP s)
def nameP (s : ByteArray) : Prop := numbP s ∨ (1 ≤ s.size ∧ s.size ≤ 7 ∧ wordP s.data.toList)
instance (s : ByteArray) : Decidable (nameP s) := by unfold nameP; infer_instance
def nameB (s : ByteArray) : Bool := decide (nameP s)
/-! ### Observations -/
structure Ob where
  name : ByteArray
  site : ByteArray
  t : Int
  ra : Int
  dec : Int
  sg : Int
  mag : Int
  band : Int
abbrev obsC (o : Ob) : List Value := [.string o.name, .string o.site, .int .i64 o.t, .int .i64 o.ra, .int .i64 o.dec, .int .i64 o.sg, .int .i64 o.mag, .int .u8 o.band]
abbrev obsV (o : Ob) : Value := .agg #[.string o.name, .string o.site, .int .i64 o.t, .int .i64 o.ra, .int .i64 o.dec, .int .i64 o.sg, .int .i64 o.mag, .int .u8 o.band]
def zeroO : Ob := ⟨ByteArray.empty, ByteArray.empty, 0, 0, 0, 0, 0, 0⟩
/-- A time of which a date can be told. -/
def timeP (t : Int) : Prop := bgv (-10227) 1972 1 ≤ t ∧ t < bgv 36525 2100 1
def magP (m b : Int) : Prop := (m = 9999 ∧ b = 32) ∨ (-500 ≤ m ∧ m ≤ 3000 ∧ (b = 32 ∨ ltP b))
def okO (o : Ob) : Prop := timeP o.t ∧ nameP o.name ∧ o.site.size = 3 ∧ wordP o.site.data.toList ∧ 0 ≤ o.ra ∧ o.ra < 1296000000000 ∧ -324000000000 ≤ o.dec ∧ o.dec ≤ 324000000000 ∧ 1 ≤ o.sg ∧ o.sg ≤ 10000000000 ∧ magP o.mag o.band
instance (m b : Int) : Decidable (magP m b) := by unfold magP; infer_instance
instance (t : Int) : Decidable (timeP t) := by unfold timeP; infer_instance
instance (o : Ob) : Decidable (okO o) := by unfold okO; infer_instance
def checkC (o : Ob) : Int := if okO o then 0 else 8
/-! ### Columns -/
/-- Without spaces at the end. -/
def cutL (l : List UInt8) : List UInt8 := (l.reverse.dropWhile (fun c => c == 32)).reverse
def cutS (s : ByteArray) : ByteArray := ⟨(cutL s.data.toList).toArray⟩
def blankP (s : ByteArray) : Prop := ∀ c ∈ s.data.toList, c = 32
instance (s : ByteArray) : Decidable (blankP s) := by unfold blankP; infer_instance
/-- How many bytes stand behind the first point, or 0. -/
def decs (s : ByteArray) : Nat := s.size - ptS s - 1
def magN (s : ByteArray) : Int := 100 * (bt s 1 - 48) + 10 * (bt s 3 - 48) + (if bt s 4 = 32 then 0 else bt s 4 - 48)
/-- What a column of a magnitude says. -/
def MagIs (s : ByteArray) (m : Int) : Prop := bt s 2 = 46 ∧ dgP (bt s 1) ∧ dgP (bt s 3) ∧ (dgP (bt s 4) ∨ bt s 4 = 32) ∧
  ((bt s 0 = 45 ∧ m = -magN s ∧ 0 < magN s) ∨ (bt s 0 = 32 ∧ m = magN s) ∨ (dgP (bt s 0) ∧ bt s 0 ≠ 48 ∧ m = magN s + 1000 * (bt s 0 - 48) ∧ m ≤ 3000))
theorem MagIs.uniq {s : ByteArray} {m m' : Int} (a : MagIs s m) (b : MagIs s m') : m = m' := by
  obtain ⟨_, _, _, _, a⟩ := a
  obtain ⟨_, _, _, _, b⟩ := b
  unfold dgP at *
  omega
/-- What a line says of an observation. -/
structure Good (s : ByteArray) (o : Ob) : Prop where
  size : s.size = 80
  mark : bt s 12 = 32 ∧ bt s 13 = 32 ∧ bt s 14 = 67
  b1 : blankP (s.extract 56 65)
  b2 : blankP (s.extract 71 77)
  p : 3 ≤ decs (cutS (s.extract 15 32)) ∧ decs (cutS (s.extract 15 32)) ≤ 6
  q : 1 ≤ decs (cutS (s.extract 32 44)) ∧ decs (cutS (s.extract 32 44)) ≤ 3
  r : decs (cutS (s.extract 44 56)) ≤ 2
  day : PDayIs (cutS (s.extract 15 32)) o.t 0
  ra : Gp.RaIs (cutS (s.extract 32 44)) o.ra 0
  dec : Gp.DecIs (cutS (s.extract 44 56)) o.dec 0
  site : o.site = s.extract 77 80
  sg : o.sg = (if decs (cutS (s.extract 44 56)) = 0 then 1000000 else if decs (cutS (s.extract 44 56)) = 1 then 300000 else 100000)
  name : (blankP (s.extract 0 5) ∧ o.name = cutS (s.extract 5 12) ∧ ¬ numbP o.name) ∨ (¬ blankP (s.extract 0 5) ∧ o.name = s.extract 0 5 ∧ numbP o.name ∧ blankP (s.extract 5 12))
  mag : (blankP (s.extract 65 71) ∧ o.mag = 9999 ∧ o.band = 32) ∨ (¬ blankP (s.extract 65 71) ∧ MagIs (s.extract 65 70) o.mag ∧ o.band = bt s 70)
  ok : okO o
theorem Good.uniq {s : ByteArray} {o o' : Ob} (a : Good s o) (b : Good s o') : o = o' := by
  have e1 := (a.day.uniq b.day).1
  have e2 := (a.ra.det b.ra).1
  have e3 := (a.dec.det b.dec).1
  have e4 := a.site.trans b.site.symm
  have e5 := a.sg.trans b.sg.symm
  have e6 : o.name = o'.name := by
    rcases a.name with ⟨x1, x2, _⟩ | ⟨x1, x2, _⟩ <;> rcases b.name with ⟨y1, y2, _⟩ | ⟨y1, y2, _⟩
    · rw [x2, y2]
    · exact absurd x1 y1
    · exact absurd y1 x1
    · rw [x2, y2]
  have e7 : o.mag = o'.mag ∧ o.band = o'.band := by
    rcases a.mag with ⟨x1, x2, x3⟩ | ⟨x1, x2, x3⟩ <;> rcases b.mag with ⟨y1, y2, y3⟩ | ⟨y1, y2, y3⟩
    · exact ⟨by omega, by omega⟩
    · exact absurd x1 y1
    · exact absurd y1 x1
    · exact ⟨x2.uniq y2, by omega⟩
  obtain ⟨e7, e8⟩ := e7
  cases o; cases o'
  simp only at e1 e2 e3 e4 e5 e6 e7 e8
  rw [e1, e2, e3, e4, e5, e6, e7, e8]
/-- What Parse returns. -/
def ObsIs (s : ByteArray) (o : Ob) (c : Int) : Prop := (Good s o ∧ c = 0) ∨ ((∀ x, ¬ Good s x) ∧ o = zeroO ∧ c = 12)
theorem ObsIs.uniq {s : ByteArray} {o o' : Ob} {c c' : Int} (a : ObsIs s o c) (b : ObsIs s o' c') : o = o' ∧ c = c' := by
  rcases a with ⟨a1, a2⟩ | ⟨a1, a2, a3⟩ <;> rcases b with ⟨b1, b2⟩ | ⟨b1, b2, b3⟩
  · exact ⟨a1.uniq b1, by omega⟩
  · exact absurd a1 (b1 _)
  · exact absurd b1 (a1 _)
  · exact ⟨by rw [a2, b2], by omega⟩
/-! ### Lines -/
def spL (n : Nat) : List UInt8 := List.replicate n 32
/-- The text of a magnitude. -/
def magB (m : Int) : List UInt8 := (if m < 0 then [45] else []) ++ Lib.itoa ((m.natAbs / 100 : Nat) : Int) ++ [46] ++ At.decL m.natAbs 2
def magL (m : Int) : List UInt8 := spL (5 - (magB m).length) ++ magB m
def nameF (s : ByteArray) : List UInt8 := if numbP s then s.data.toList ++ spL 9 else spL 5 ++ s.data.toList ++ spL (9 - s.size)
def magF (m b : Int) : List UInt8 := if m = 9999 then spL 6 else magL m ++ [UInt8.ofNat b.toNat]
end Op
end Go.Proofs.YtafeigpmldgifaaDoor
/-
  Reading hours or degrees: package angle's read.
-/
namespace Go.Proofs.YtafeigpmldgifaaDoor
namespace Gp
open Go.RowKit Lw

/-- The bytes of s lie in a block. -/
def Held (s : ByteArray) (B : Nat) (w' : World) : Prop := B < w'.heap.size ∧ ∀ j (h : j < s.size), w'.cell? ⟨B, j, none⟩ = some (.int .u8 (s[j].toNat : Int))
theorem held_below {s : ByteArray} {B : Nat} {a b : World} (h : Held s B a) (hb : Below a.heap.size a b) : Held s B b :=
  ⟨Nat.lt_of_lt_of_le h.1 hb.size, fun j hj => by rw [hb.cell (p := ⟨B, j, none⟩) h.1]; exact h.2 j hj⟩
theorem held_drew {s : ByteArray} {B : Nat} {a : World} (h : Held s B a) : Held s B a.drew := h
theorem bytes_in (w : World) (s : ByteArray) : ∃ (W : World) (cap : Nat), (convert 9 58 (.string s)).run Tryd.prog w = .ok (.slice (some ⟨w.heap.size, 0, none⟩) s.size cap) W ∧ Held s w.heap.size W ∧ Below w.heap.size w W ∧ s.size ≤ cap := by
  refine ⟨_, _, run_bytes_of_string (P := Tryd.prog) w 9 58 5 s Tryd.underlying9 Tryd.underlying58 Tryd.underlying5, ⟨by simp, fun j hj => ?_⟩, ((Below.refl _ w).drew).alloc (Nat.le_refl _) _, ?_⟩
  · rw [cell_of_row (World.alloc _ _) w.heap.size j (bytesRow s (grownCap w s.size 0 5)) 5 ((bytesRow s (grownCap w s.size 0 5)).size, (bytesRow s (grownCap w s.size 0 5)).size + 1) (by show (w.heap.push _)[w.heap.size]? = _; simp)]
    have hj' : j < s.data.size := hj
    unfold bytesRow
    rw [Array.getElem?_append_left (by simpa using hj'), Array.getElem?_map, Array.getElem?_eq_getElem hj']
    rfl
  · exact grownCap_ge w s.size 0 _
theorem back_any {s : ByteArray} {B : Nat} {w' : World} (h : Held s B w') (i n cap : Nat) (hin : i + n ≤ s.size) :
    (convert 58 9 (.slice (some ⟨B, i, none⟩) n cap)).run Tryd.prog w' = .ok (.string (s.extract i (i + n))) w' := by
  have hl : (s.extract i (i + n)).data.toList.length = n := by simp; omega
  have := run_convert_bytes_back (P := Tryd.prog) w' 58 9 5 ⟨B, i, none⟩ cap (s.extract i (i + n)).data.toList Tryd.underlying58 Tryd.underlying5 Tryd.underlying9 (fun j hj => by
    have := h.2 (i + j) (by rw [hl] at hj; omega)
    rw [Addr.add_mid, this]
    congr 3
    simp [ByteArray.getElem_eq_getElem_data])
  rw [hl] at this
  exact this
def ReadIs (s : ByteArray) (H a p : Int) (d : Nat) (ok : Bool) : Prop :=
  (ok = true ∧ validP s ∧ two s 0 ≤ H ∧ a = secs s ∧ p = numV (restOf s).data.toList ∧ d = (restOf s).size) ∨ (ok = false ∧ ¬ (validP s ∧ two s 0 ≤ H) ∧ (0 ≤ a ∧ a ≤ 1000000) ∧ (-1 ≤ p ∧ p ≤ 999999) ∧ d ≤ 6)
def ReadPost (s : ByteArray) (H : Int) (w : World) (e : Ending) (w' : World) : Prop := ∃ (a p : Int) (d : Nat) (ok : Bool), e = .returned (.tuple #[.int .i64 a, .int .i64 p, .int .i64 d, .bool ok]) ∧ ReadIs s H a p d ok ∧ Below w.heap.size w w'
end Gp
end Go.Proofs.YtafeigpmldgifaaDoor
/-
  Reading hours or degrees: the walk of package angle's read.
-/
namespace Go.Proofs.YtafeigpmldgifaaDoor
namespace Gp
open Go.RowKit Lw

theorem results_tmp4 {fn : Func} {t u v x : Tmp} (h : fn.results = #[.tmp t, .tmp u, .tmp v, .tmp x]) (tmps : Array Value) (P : Program) (w : World) :
    (results fn tmps).run P w = .ok (.tuple #[tmps.getD t undef, tmps.getD u undef, tmps.getD v undef, tmps.getD x undef]) w := by
  simp [results, h]
/-- What the region of the three numbers needs of memory. -/
structure ReadS (s : ByteArray) (w w' : World) : Prop where
  held : Held s w.heap.size w'
  below : Below w.heap.size w w'
theorem readS_call {s : ByteArray} {w a b : World} (h : ReadS s w a) (hb : Below a.heap.size a b) : ReadS s w b := ⟨held_below h.held hb, h.below.trans (hb.mono (Nat.le_of_lt h.held.1))⟩
theorem readS_drew {s : ByteArray} {w a : World} (h : ReadS s w a) : ReadS s w a.drew := ⟨held_drew h.held, h.below.drew⟩
theorem read_bad {s : ByteArray} {H : Int} (h : ¬ validP s) : ReadIs s H 0 0 0 false := Or.inr ⟨rfl, fun g => h g.1, ⟨by omega, by omega⟩, ⟨by omega, by omega⟩, by omega⟩
theorem below_iter (w : World) (s : ByteArray) (k : Nat) : Below w.heap.size w (w.iter s k) := by
  exact (Below.refl _ _).alloc (Nat.le_refl _) _
end Gp
end Go.Proofs.YtafeigpmldgifaaDoor
/-
  The walks of isDigit, isLetter, isWord of package obs, and of digit, letter, word, digits of the reference.
-/
namespace Go.Proofs.YtafeigpmldgifaaDoor
namespace Ow
open Go.RowKit Lw Go.Proofs.YtafeigpmldgifaaDoor.Ap Go.Proofs.YtafeigpmldgifaaDoor.Op

theorem dgB_cases (r : Int) : (48 ≤ r ∧ r ≤ 57 ∧ dgB r = true) ∨ (r < 48 ∧ dgB r = false) ∨ (48 ≤ r ∧ 57 < r ∧ dgB r = false) := by
  by_cases h : 48 ≤ r
  · by_cases g : r ≤ 57
    · exact Or.inl ⟨h, g, decide_eq_true ⟨h, g⟩⟩
    · exact Or.inr (Or.inr ⟨h, by omega, decide_eq_false fun x => g x.2⟩)
  · exact Or.inr (Or.inl ⟨by omega, decide_eq_false fun x => h x.1⟩)
theorem ltB_cases (r : Int) : (65 ≤ r ∧ r ≤ 90 ∧ ltB r = true) ∨ (97 ≤ r ∧ r ≤ 122 ∧ ltB r = true) ∨ (r < 65 ∧ ltB r = false) ∨ (90 < r ∧ r < 97 ∧ ltB r = false) ∨ (122 < r ∧ ltB r = false) := by
  by_cases h : 65 ≤ r ∧ r ≤ 90
  · exact Or.inl ⟨h.1, h.2, decide_eq_true (Or.inl h)⟩
  · by_cases g : 97 ≤ r ∧ r ≤ 122
    · exact Or.inr (Or.inl ⟨g.1, g.2, decide_eq_true (Or.inr g)⟩)
    · have n : ltB r = false := decide_eq_false fun x => by rcases x with x | x <;> omega
      by_cases a : r < 65
      · exact Or.inr (Or.inr (Or.inl ⟨a, n⟩))
      · by_cases b : r < 97
        · exact Or.inr (Or.inr (Or.inr (Or.inl ⟨by omega, b, n⟩)))
        · exact Or.inr (Or.inr (Or.inr (Or.inr ⟨by omega, n⟩)))
/-- A byte that is no letter and no digit, or the byte itself, as the range over a string gives it. -/
theorem rune_word {s : ByteArray} {k : Nat} (hlt : k < s.size) : (Utf8.decode s k = ((s[k]'hlt).toNat, 1)) ∨ (¬ (dgP (s[k].toNat : Int) ∨ ltP (s[k].toNat : Int)) ∧ 128 ≤ ((Utf8.decode s k).1 : Int) ∧ ((Utf8.decode s k).1 : Int) ≤ 2147483647) := by
  by_cases ha : (s[k]'hlt).toNat < 128
  · exact Or.inl (decode_ascii s k hlt ha)
  · have := (decode_high s k hlt (by omega)).1
    have := decode_le s k
    refine Or.inr ⟨fun h => ?_, by omega, by omega⟩
    unfold dgP ltP at h
    omega
theorem dg_cases (c : Int) : (dgP c ∧ dgB c = true) ∨ (¬ dgP c ∧ dgB c = false) := by
  by_cases h : dgP c
  · exact Or.inl ⟨h, decide_eq_true h⟩
  · exact Or.inr ⟨h, decide_eq_false h⟩
theorem lt_cases (c : Int) : (ltP c ∧ ltB c = true) ∨ (¬ ltP c ∧ ltB c = false) := by
  by_cases h : ltP c
  · exact Or.inl ⟨h, decide_eq_true h⟩
  · exact Or.inr ⟨h, decide_eq_false h⟩
theorem digs_not (s : ByteArray) (k : Nat) (hk : k < s.size) (h : ¬ dgP (s[k].toNat : Int)) : digsB s.data.toList = false := by
  refine decide_eq_false fun g => h (g.2 _ ?_)
  have : s[k] = s.data.toList[k]'(by simpa using hk) := rfl
  rw [this]; exact List.getElem_mem _
theorem digs_all (s : ByteArray) (k : Nat) (hk : ¬ k < s.size) (h : allD (s.data.toList.take k)) : digsB s.data.toList = decide (0 < s.size) := by
  rw [take_all s k hk] at h
  refine decide_eq_decide.2 ⟨fun g => by simpa using g.1, fun g => ⟨by simpa using g, h⟩⟩
end Ow
end Go.Proofs.YtafeigpmldgifaaDoor
/-
  The walks of isNumbered, isName of package obs, and of Numbered, Name of the reference.
-/
namespace Go.Proofs.YtafeigpmldgifaaDoor
namespace Ow
open Go.RowKit Lw Go.Proofs.YtafeigpmldgifaaDoor.Ap Go.Proofs.YtafeigpmldgifaaDoor.Op

/-- The variable ErrSyntax reads as an error. -/
def ES (w : World) : Prop := 3 < w.heap.size ∧ ∃ ev, w.cell? ⟨3, 0, none⟩ = some ev ∧ (ev = .nilIface ∨ ∃ te pe, ev = .iface te pe)
theorem ES.below {w w' : World} (h : ES w) (hb : Below w.heap.size w w') : ES w' := by
  obtain ⟨lt, ev, h1, h2⟩ := h
  exact ⟨Nat.lt_of_lt_of_le lt hb.size, ev, (hb.cell (p := ⟨3, 0, none⟩) lt).trans h1, h2⟩
theorem pu_step {M acc : Nat} {c : UInt8} {r : List UInt8} (h : 48 ≤ c.toNat ∧ c.toNat ≤ 57) (ha : acc ≤ 1000) (hM : 65535 ≤ M) : Lib.parseUintM M acc (c :: r) = Lib.parseUintM M (acc * 10 + (c.toNat - 48)) r := by
  rw [Lib.parseUintM, if_pos h, if_neg (by omega), if_neg (by omega)]
/-- What is answered for no number. -/
def noNum : Lib.NumEnd Nat := Lib.parseUintB 16 []
theorem pu_stop {M acc : Nat} {c : UInt8} {r : List UInt8} (h : ¬ (48 ≤ c.toNat ∧ c.toNat ≤ 57)) : Lib.parseUintM M acc (c :: r) = noNum := by
  rw [Lib.parseUintM, if_neg h]
  rfl
/-- Four bytes are digits, or no number. -/
theorem pu_cases {l : List UInt8} (h : l.length = 4) : (digsB l = true ∧ ∃ u, Lib.parseUintB 16 l = .ok u) ∨ (digsB l = false ∧ Lib.parseUintB 16 l = noNum) := by
  match l, h with
  | [a, b, c, d], _ =>
    unfold Lib.parseUintB
    rw [if_neg (by simp)]
    have nd : ∀ x ∈ [a, b, c, d], ¬ (48 ≤ x.toNat ∧ x.toNat ≤ 57) → digsB [a, b, c, d] = false := fun x hx hn => decide_eq_false fun g => hn (by have := g.2 x hx; omega)
    by_cases ha : 48 ≤ a.toNat ∧ a.toNat ≤ 57
    · rw [pu_step ha (by omega) (by omega)]
      by_cases hb : 48 ≤ b.toNat ∧ b.toNat ≤ 57
      · rw [pu_step hb (by omega) (by omega)]
        by_cases hc : 48 ≤ c.toNat ∧ c.toNat ≤ 57
        · rw [pu_step hc (by omega) (by omega)]
          by_cases hd : 48 ≤ d.toNat ∧ d.toNat ≤ 57
          · rw [pu_step hd (by omega) (by omega)]
            refine Or.inl ⟨decide_eq_true ⟨by simp, fun x hx => ?_⟩, _, rfl⟩
            simp only [List.mem_cons, List.not_mem_nil, or_false] at hx
            rcases hx with rfl | rfl | rfl | rfl <;> omega
          · rw [pu_stop hd]; exact Or.inr ⟨nd d (by simp) hd, rfl⟩
        · rw [pu_stop hc]; exact Or.inr ⟨nd c (by simp) hc, rfl⟩
      · rw [pu_stop hb]; exact Or.inr ⟨nd b (by simp) hb, rfl⟩
    · rw [pu_stop ha]; exact Or.inr ⟨nd a (by simp) ha, rfl⟩
theorem numb_of {s : ByteArray} (hs : s.size = 5) : numbB s = ((decide (bt s 0 = 126) && wordB (s.extract 1 5).data.toList) || (wordB (s.extract 0 1).data.toList && digsB (s.extract 1 5).data.toList)) := by
  unfold numbB numbP wordB digsB
  simp only [hs, true_and, Bool.decide_or, Bool.decide_and]
theorem dig_word {l : List UInt8} (h : digsB l = true) : wordB l = true := by
  have := of_decide_eq_true h
  exact decide_eq_true fun c hc => Or.inl (this.2 c hc)
theorem name_cases (s : ByteArray) : (numbB s = true ∧ nameB s = true) ∨ (numbB s = false ∧ ((s.size < 1 ∧ nameB s = false) ∨ (1 ≤ s.size ∧ 7 < s.size ∧ nameB s = false) ∨ (1 ≤ s.size ∧ s.size ≤ 7 ∧ nameB s = wordB s.data.toList))) := by
  by_cases h : numbP s
  · exact Or.inl ⟨decide_eq_true h, decide_eq_true (Or.inl h)⟩
  · refine Or.inr ⟨decide_eq_false h, ?_⟩
    by_cases a : s.size < 1
    · exact Or.inl ⟨a, decide_eq_false fun g => g.elim h (fun x => by omega)⟩
    · by_cases b : 7 < s.size
      · exact Or.inr (Or.inl ⟨by omega, b, decide_eq_false fun g => g.elim h (fun x => by omega)⟩)
      · refine Or.inr (Or.inr ⟨by omega, by omega, decide_eq_decide.2 ⟨fun g => g.elim (fun x => absurd x h) (fun x => x.2.2), fun g => Or.inr ⟨by omega, by omega, g⟩⟩⟩)
end Ow
end Go.Proofs.YtafeigpmldgifaaDoor
/-
  strconv.Atoi at any string.
-/
namespace Go.Proofs.YtafeigpmldgifaaDoor
namespace Arw
open Go.RowKit Lw

theorem pu_snoc : ∀ (l : List UInt8) (acc a : Nat) (c : UInt8), Lib.parseUint10 acc l = .ok a → Lib.parseUint10 acc (l ++ [c]) = Lib.parseUint10 a [c]
  | [], acc, a, c, h => by
    simp only [Lib.parseUint10] at h
    injection h with h
    rw [h]; rfl
  | x :: r, acc, a, c, h => by
    rw [List.cons_append]
    unfold Lib.parseUint10 at h ⊢
    split at h
    · rename_i g
      rw [if_pos g]
      split at h
      · cases h
      · rename_i g1
        rw [if_neg g1]
        split at h
        · cases h
        · rename_i g2
          rw [if_neg g2]
          exact pu_snoc r _ a c h
    · cases h
theorem dig_toNat {d : Nat} (h : d < 10) : (UInt8.ofNat (48 + d)).toNat = 48 + d := by rw [UInt8.toNat_ofNat']; omega
theorem pu_dec (u : Nat) (hu : u < 18446744073709551616) : Lib.parseUint10 0 (Lib.decDigits u) = .ok u := by
  induction u using Nat.strongRecOn with
  | _ u ih =>
    by_cases h : u < 10
    · rw [Lib.decDigits_one h]
      unfold Lib.parseUint10
      rw [dig_toNat h, if_pos (by omega), if_neg (by omega), if_neg (by omega)]
      unfold Lib.parseUint10
      congr 1
      omega
    · rw [Lib.decDigits, dif_neg h, pu_snoc _ _ _ _ (ih (u / 10) (by omega) (by omega))]
      unfold Lib.parseUint10
      rw [dig_toNat (Nat.mod_lt u (by decide)), if_pos (by omega), if_neg (by omega), if_neg (by omega)]
      unfold Lib.parseUint10
      congr 1
      omega
theorem dec_head (u : Nat) : ∃ c r, Lib.decDigits u = c :: r ∧ 48 ≤ c.toNat := by
  induction u using Nat.strongRecOn with
  | _ u ih =>
    by_cases h : u < 10
    · rw [Lib.decDigits_one h]
      exact ⟨_, [], rfl, by rw [dig_toNat h]; omega⟩
    · obtain ⟨c, r, e, hc⟩ := ih (u / 10) (by omega)
      rw [Lib.decDigits, dif_neg h, e]
      exact ⟨c, _, rfl, hc⟩
theorem atoi_itoa (m : Nat) (hm : m ≤ 9223372036854775807) : Lib.atoiAll (Lib.itoa (m : Int)) = .ok (m : Int) := by
  rw [Dp.itoa_nat]
  have h := pu_dec m (by omega)
  obtain ⟨c, r, e, hc⟩ := dec_head m
  rw [e] at h ⊢
  unfold Lib.atoiAll
  simp only
  rw [if_neg (by omega)]
  unfold Lib.parseMag
  rw [if_neg (by simp), h]
  simp only
  rw [if_neg (by omega), if_neg (by omega), if_neg (by omega)]
/-- ErrRange can be read. -/
def ER (w : World) : Prop := 4 < w.heap.size ∧ ∃ ev, w.cell? ⟨4, 0, none⟩ = some ev ∧ (ev = .nilIface ∨ ∃ te pe, ev = .iface te pe)
theorem ER.below {w w' : World} (h : ER w) (hb : Below w.heap.size w w') : ER w' := by
  obtain ⟨lt, ev, h1, h2⟩ := h
  exact ⟨Nat.lt_of_lt_of_le lt hb.size, ev, (hb.cell (p := ⟨4, 0, none⟩) lt).trans h1, h2⟩
def AtoiPost (s : ByteArray) (w : World) (e : Ending) (w' : World) : Prop := ∃ (n : Int) (v : Value), e = .returned (.tuple #[.int .i64 n, v]) ∧ (∀ m : Nat, m ≤ 9223372036854775807 → s.data.toList = Lib.itoa (m : Int) → n = m) ∧ -9223372036854775808 ≤ n ∧ n ≤ 9223372036854775807 ∧ Below w.heap.size w w'
theorem atoi_any (s : ByteArray) (w : World) (hs : s.size ≤ 100000) (hE : Ow.ES w) (hR : ER w) : Calls Tryd.prog 28 #[.string s] w (AtoiPost s w) := by
  obtain ⟨_, ev, hv, hev⟩ := hE
  obtain ⟨_, er, hr, her⟩ := hR
  rcases h : Lib.atoiAll s.data.toList with v | _ | _
  · refine (Any.strconv_Atoi_ok Tryd.laysAtoi s (by omega) v h w).mono ?_
    rintro e w' ⟨rfl, hw⟩
    have bd := Lib.atoiAll_bounds h
    refine ⟨v, _, rfl, fun m hm e => ?_, bd.1, bd.2, ?_⟩
    · rw [e, atoi_itoa m hm] at h
      injection h with h
      exact h.symm
    · rcases hw with rfl | ⟨t, rfl⟩
      · exact Below.refl _ _
      · exact Lib.bytesWorld_below _ _ _
  · refine (Any.strconv_Atoi_syntax Tryd.laysAtoi s (by omega) h ev w hv hev).mono ?_
    rintro e w' ⟨N, rfl, _, _, hb⟩
    refine ⟨0, _, rfl, fun m hm e => ?_, by decide, by decide, hb⟩
    rw [e, atoi_itoa m hm] at h
    cases h
  · refine (Any.strconv_Atoi_range Tryd.laysAtoi s (by omega) h er w hr her).mono ?_
    rintro e w' ⟨N, rfl, _, _, hb⟩
    refine ⟨_, _, rfl, fun m hm e => ?_, ?_, ?_, hb⟩
    · rw [e, atoi_itoa m hm] at h
      cases h
    · unfold Lib.atoiSat; split <;> decide
    · unfold Lib.atoiSat; split <;> decide
end Arw
end Go.Proofs.YtafeigpmldgifaaDoor
/-
  The library contracts of a builder, laid at this program.
-/
namespace Go.Proofs
open Go.Shelf
def Tryd.lays105b_ren : Go.Shelf.Ren := ⟨fun | 166 => 21 | 169 => 22 | 240 => 37 | 276 => 52 | n => n, fun | 9 => 9 | 3 => 3 | 4 => 4 | 20 => 20 | 0 => 0 | 46 => 46 | 5 => 5 | 72 => 60 | 76 => 64 | 51 => 85 | 146 => 121 | 53 => 100 | 70 => 57 | 37 => 58 | 75 => 63 | 127 => 82 | 164 => 96 | 80 => 66 | n => n, fun | n => n⟩
theorem Tryd.Builder_Extra_105b : Builder.Extra Tryd.prog Tryd.lays105b_ren := {
  sizeBuilder := by kernel_rfl
  liesBuilder := by kernel_rfl
  t5 := Tryd.underlying5
  a5 := Tryd.isAgg5
  z5 := Tryd.sizeOf5
  v5 := Tryd.zeroValue5
  infoByte := by kernel_rfl
  cellsByte := by kernel_rfl
  sizeByte := by kernel_rfl
  neB5 := by decide }
theorem Tryd.lays105b_166 : Go.Proofs.Lays.n166 Tryd.prog Tryd.lays105b_ren := {
  mixed := by kernel_rfl
  f166 := Tryd.func21.trans (congrArg some (by kernel_rfl))
  f240 := Tryd.func37.trans (congrArg some (by kernel_rfl))
  f276 := Tryd.func52.trans (congrArg some (by kernel_rfl))
  t0 := Tryd.underlying0
  a0 := Tryd.isAgg0
  z0 := Tryd.sizeOf0
  v0 := Tryd.zeroValue0
  t3 := Tryd.underlying3
  a3 := Tryd.isAgg3
  z3 := Tryd.sizeOf3
  v3 := Tryd.zeroValue3
  t4 := Tryd.underlying4
  a4 := Tryd.isAgg4
  z4 := Tryd.sizeOf4
  v4 := Tryd.zeroValue4
  t9 := Tryd.underlying9
  a9 := Tryd.isAgg9
  z9 := Tryd.sizeOf9
  v9 := Tryd.zeroValue9
  t20 := Tryd.underlying20
  a20 := Tryd.isAgg20
  z20 := Tryd.sizeOf20
  v20 := Tryd.zeroValue20
  t37 := Tryd.underlying58
  a37 := Tryd.isAgg58
  z37 := Tryd.sizeOf58
  v37 := Tryd.zeroValue58
  t70 := Tryd.underlying57
  a70 := Tryd.isAgg57
  z70 := Tryd.sizeOf57
  v70 := Tryd.zeroValue57
  t72 := Tryd.underlying60
  a72 := Tryd.isAgg60
  z72 := Tryd.sizeOf60
  v72 := Tryd.zeroValue60
  t75 := Tryd.underlying63
  a75 := Tryd.isAgg63
  z75 := Tryd.sizeOf63
  v75 := Tryd.zeroValue63
  t164 := Tryd.underlying96
  a164 := Tryd.isAgg96
  z164 := Tryd.sizeOf96
  v164 := Tryd.zeroValue96 }
theorem Tryd.lays105b_169 : Go.Proofs.Lays.n169 Tryd.prog Tryd.lays105b_ren := {
  mixed := by kernel_rfl
  f169 := Tryd.func22.trans (congrArg some (by kernel_rfl))
  t0 := Tryd.underlying0
  a0 := Tryd.isAgg0
  z0 := Tryd.sizeOf0
  v0 := Tryd.zeroValue0
  t3 := Tryd.underlying3
  a3 := Tryd.isAgg3
  z3 := Tryd.sizeOf3
  v3 := Tryd.zeroValue3
  t9 := Tryd.underlying9
  a9 := Tryd.isAgg9
  z9 := Tryd.sizeOf9
  v9 := Tryd.zeroValue9
  t37 := Tryd.underlying58
  a37 := Tryd.isAgg58
  z37 := Tryd.sizeOf58
  v37 := Tryd.zeroValue58
  t70 := Tryd.underlying57
  a70 := Tryd.isAgg57
  z70 := Tryd.sizeOf57
  v70 := Tryd.zeroValue57
  t72 := Tryd.underlying60
  a72 := Tryd.isAgg60
  z72 := Tryd.sizeOf60
  v72 := Tryd.zeroValue60
  t127 := Tryd.underlying82
  a127 := Tryd.isAgg82
  z127 := Tryd.sizeOf82
  v127 := Tryd.zeroValue82 }
open Go.RowKit in
theorem Tryd.Builder_WriteString (B b : Nat) (bs : List Value) (s : ByteArray) (w : World) (h : Lib.IsBuilder 60 5 B b bs w) (hlen : bs.length + s.size ≤ 140737488355328) (hBw : B ≤ w.heap.size) :
    Calls Tryd.prog 21 #[.pointer (some ⟨b, 0, none⟩), .string s] w fun e w' => e = .returned (.tuple #[.int .i64 s.size, .nilIface]) ∧ (Lib.BuilderAt 60 5 B b (.pointer (some ⟨b, 0, none⟩)) (bs ++ Lib.strCells s) w' ∧ Below B w w') := Any.Builder_WriteString Tryd.lays105b_166 Tryd.Builder_Extra_105b B b bs s w h hlen hBw
open Go.RowKit in
theorem Tryd.Builder_String_any (B b : Nat) (l : List UInt8) (w : World) (h : Lib.IsBuilder 60 5 B b (Lib.byteCells l) w) (hBw : B ≤ w.heap.size) :
    Calls Tryd.prog 22 #[.pointer (some ⟨b, 0, none⟩)] w fun e w' => e = .returned (.string ⟨l.toArray⟩) ∧ Below B w w' := (Any.Builder_String_any_f Tryd.lays105b_169 Tryd.Builder_Extra_105b B b l w (Lib.IsBuilderF.of h) hBw).mono fun e w' h => ⟨h.1, h.2.2⟩
end Go.Proofs
/-
  Pack of package desig.
-/
namespace Go.Proofs.YtafeigpmldgifaaDoor
namespace Dw
open Go.RowKit Dp Lw

/-- A builder that the call has made in world W0, and what it holds. -/
structure BW (W0 : World) (l : List UInt8) (w' : World) : Prop where
  bld : Lib.IsBuilder 60 5 W0.heap.size W0.heap.size (Lib.byteCells l) w'
  tb : Tb w'
  below : Below W0.heap.size W0 w'
theorem BW.new {W0 : World} (h : Tb W0) : BW W0 [] (W0.alloc (.cells #[.pointer none, .slice none 0 0] 60)) :=
  ⟨Lib.fresh_isBuilder _ _ W0, h.below ((Below.refl _ _).alloc (Nat.le_refl _) _), (Below.refl _ _).alloc (Nat.le_refl _) _⟩
theorem owns_below {B : Nat} {e : TypeId} {k : Nat} {v : Value} {n : Nat} {xs : List Value} {w w' : World} (h : w.ownsRow B e k v n xs) (hb : Below w.heap.size w w') : w'.ownsRow B e k v n xs :=
  h.kept (row := none) ⟨hb.os, hb.tape, hb.output, hb.size, fun j hj _ => hb.block j hj⟩ (by cases h : v.ownBlock <;> simp)
theorem lt_of_get {w : World} {b : Nat} {o : Obj} (h : w.heap[b]? = some o) : b < w.heap.size := (Array.getElem?_eq_some_iff.1 h).1
theorem bat_below {T e : TypeId} {B b : Nat} {p : Value} {bs : List Value} {w w' : World} (h : Lib.BuilderAt T e B b p bs w) (hb : Below w.heap.size w w') : Lib.BuilderAt T e B b p bs w' := by
  obtain ⟨h1, v, h2, h3, h4⟩ := h
  exact ⟨h1, v, by rw [hb.block b (lt_of_get h2)]; exact h2, owns_below h3 hb, h4⟩
theorem BW.call {W0 : World} {l : List UInt8} {a b : World} (h : BW W0 l a) (hb : Below a.heap.size a b) : BW W0 l b :=
  ⟨h.bld.imp (fun x => bat_below x hb) (fun x => bat_below x hb), h.tb.below hb, below_then h.below hb⟩
theorem BW.cell {W0 : World} {l : List UInt8} {a : World} (h : BW W0 l a) (b j : Nat) (v : Value) (hlt : b < W0.heap.size) (hv : W0.cell? ⟨b, j, none⟩ = some v) : a.cell? ⟨b, j, none⟩ = some v :=
  (h.below.cell (p := ⟨b, j, none⟩) hlt).trans hv
theorem BW.writes {W0 : World} {l : List UInt8} {a : World} (h : BW W0 l a) (hT : Tb W0) (hl : l.length ≤ 1000) (m : List UInt8) (hm : m.length ≤ 1000) :
    Calls Tryd.prog 21 #[.pointer (some ⟨W0.heap.size, 0, none⟩), .string ⟨m.toArray⟩] a fun e w' => e = .returned (.tuple #[.int .i64 m.length, .nilIface]) ∧ BW W0 (l ++ m) w' :=
  (Tryd.Builder_WriteString W0.heap.size W0.heap.size (Lib.byteCells l) ⟨m.toArray⟩ a h.bld (by rw [Lib.byteCells_length, size_mk]; omega) h.below.size).mono fun e w' ⟨he, h1, hb⟩ =>
    have hB := h.below.trans hb
    ⟨by rw [he, size_mk], ⟨by rw [Lib.byteCells_append]; rw [Lib.strCells_eq] at h1; exact Or.inr h1, hT.below hB, hB⟩⟩
theorem BW.str {W0 : World} {l : List UInt8} {a : World} (h : BW W0 l a) :
    Calls Tryd.prog 22 #[.pointer (some ⟨W0.heap.size, 0, none⟩)] a fun e w' => e = .returned (.string ⟨l.toArray⟩) ∧ Below W0.heap.size W0 w' :=
  (Tryd.Builder_String_any W0.heap.size W0.heap.size l a h.bld h.below.size).mono fun e w' ⟨he, hb⟩ => ⟨he, h.below.trans hb⟩
def PackOk (n y h s c : Int) (w : World) (e : Ending) (w' : World) : Prop := e = .returned (.tuple #[.string ⟨(packG ⟨n, y, h, s, c⟩).toArray⟩, .int .i64 0]) ∧ Below w.heap.size w w'
theorem idx_litI (i : Int) (h0 : 0 ≤ i) (h1 : i < 62) (w : World) : (Instr.index 9 (.string ⟨#[48, 49, 50, 51, 52, 53, 54, 55, 56, 57, 65, 66, 67, 68, 69, 70, 71, 72, 73, 74, 75, 76, 77, 78, 79, 80, 81, 82, 83, 84, 85, 86, 87, 88, 89, 90, 97, 98, 99, 100, 101, 102, 103, 104, 105, 106, 107, 108, 109, 110, 111, 112, 113, 114, 115, 116, 117, 118, 119, 120, 121, 122]⟩) (.int .i64 i)).run Tryd.prog w = .ok (.int .u8 ((dig62 i.toNat).toNat : Int)) w := by
  obtain ⟨k, rfl⟩ := Int.eq_ofNat_of_zero_le h0
  rw [Int.toNat_natCast]
  exact idx_lit k (by omega) w
theorem packG_big (m y h s c : Int) (h0 : 0 ≤ m) (h1 : m ≤ 14776335) : packG ⟨m + 620000, y, h, s, c⟩ = [126, dig62 (m / 62 / 62 / 62).toNat, dig62 (m / 62 / 62 % 62).toNat, dig62 (m / 62 % 62).toNat, dig62 (m % 62).toNat] := by
  obtain ⟨k, rfl⟩ := Int.eq_ofNat_of_zero_le h0
  have hl : lessL ((k : Int) + 620000) = k := by unfold lessL; omega
  have hp : packG ⟨(k : Int) + 620000, y, h, s, c⟩ = bigL (lessL ((k : Int) + 620000)) := if_pos (by show 620000 ≤ (k : Int) + 620000; omega)
  rw [hp, hl]
  unfold bigL
  rw [show ((k : Int) / 62 / 62 / 62).toNat = k / 238328 by omega, show ((k : Int) / 62 / 62 % 62).toNat = k / 3844 % 62 by omega, show ((k : Int) / 62 % 62).toNat = k / 62 % 62 by omega, show ((k : Int) % 62).toNat = k % 62 by omega]
end Dw
end Go.Proofs.YtafeigpmldgifaaDoor
/-
  Pack of package desig, of small numbers and of provisional designations.
-/
namespace Go.Proofs.YtafeigpmldgifaaDoor
namespace Dw
open Go.RowKit Dp Lw

theorem packG_small (n y h s c : Int) (h0 : 0 < n) (h1 : n < 620000) : packG ⟨n, y, h, s, c⟩ = dig62 (n / 10000).toNat :: padL (n % 10000) 4 := by
  obtain ⟨k, rfl⟩ := Int.eq_ofNat_of_zero_le (show 0 ≤ n by omega)
  have hp : packG ⟨(k : Int), y, h, s, c⟩ = dig62 ((k : Int).toNat / 10000) :: padL (((k : Int).toNat % 10000 : Nat) : Int) 4 := by
    unfold packG
    rw [if_neg (by show ¬ 620000 ≤ (k : Int); omega), if_pos h0]
  rw [hp, Int.toNat_natCast, show ((k : Int) / 10000).toNat = k / 10000 by omega]
  rfl
theorem packG_prov (y h s c : Int) (y0 : 0 ≤ y) (c0 : 0 ≤ c) : packG ⟨0, y, h, s, c⟩ = b8 (y / 100 + 55) :: (padL (y % 100) 2 ++ [b8 h, dig62 (c / 10).toNat, dig62 (c % 10).toNat, b8 s]) := by
  obtain ⟨v, rfl⟩ := Int.eq_ofNat_of_zero_le y0
  obtain ⟨k, rfl⟩ := Int.eq_ofNat_of_zero_le c0
  have hp : packG ⟨0, (v : Int), h, s, k⟩ = b8 ((v : Int) / 100 + 55) :: (padL (((v : Int).toNat % 100 : Nat) : Int) 2 ++ [b8 h, dig62 ((k : Int).toNat / 10), dig62 ((k : Int).toNat % 10), b8 s]) := by
    unfold packG
    rw [if_neg (by simp), if_neg (by simp)]
  rw [hp, Int.toNat_natCast, Int.toNat_natCast, show ((k : Int) / 10).toNat = k / 10 by omega, show ((k : Int) % 10).toNat = k % 10 by omega]
  rfl
theorem padL_len (n : Int) (d : Nat) (h0 : 0 ≤ n) (h1 : n < 10 ^ 4) (hd : d ≤ 4) : (padL n d).length ≤ 4 + d := by
  obtain ⟨k, rfl⟩ := Int.eq_ofNat_of_zero_le h0
  have h2 := itoa_len k 3 (by omega)
  unfold padL
  rw [List.length_append, rep_len]
  omega
theorem idx_ijk (y : Int) (h0 : 1800 ≤ y) (h1 : y ≤ 2099) (w : World) : (Instr.index 9 (.string ⟨#[73, 74, 75]⟩) (.int .i64 (y / 100 - 18))).run Tryd.prog w = .ok (.int .u8 ((b8 (y / 100 + 55)).toNat : Int)) w := by
  have hs : (⟨#[73, 74, 75]⟩ : ByteArray).size = 3 := rfl
  have key : ∀ k : Nat, k < 3 → ∀ h : k < (⟨#[73, 74, 75]⟩ : ByteArray).size, (((⟨#[73, 74, 75]⟩ : ByteArray)[k]'h).toNat : Int) = k + 73 := by decide
  rw [run_index_string (P := Tryd.prog) w 9 _ .i64 (y / 100 - 18) Tryd.underlying9, dif_pos ⟨by omega, by rw [hs]; omega⟩]
  rw [key _ (by omega), b8_of (by omega) (by omega), show (((y / 100 - 18).toNat : Nat) : Int) + 73 = y / 100 + 55 by omega]
end Dw
end Go.Proofs.YtafeigpmldgifaaDoor
/-
  Pack of the reference.
-/
namespace Go.Proofs.YtafeigpmldgifaaDoor
namespace Dw
open Go.RowKit Dp Lw

theorem addL (a b : List UInt8) (ha : a.length ≤ 1000) (hb : b.length ≤ 1000) (w : World) : (Op.stringOp .add (⟨a.toArray⟩ : ByteArray) ⟨b.toArray⟩).run Tryd.prog w = .ok (.string ⟨(a ++ b).toArray⟩) w := by
  rw [run_string_add_sum (P := Tryd.prog) (w := w) _ _ (by rw [size_mk, size_mk]; omega), str_app]
theorem wrap_div (n d : Int) (h0 : 0 ≤ n) (h1 : n ≤ 1000000000000000000) (hd : 0 < d) : IntKind.i64.wrap (n.tdiv d) = n / d := by
  rw [Int.tdiv_eq_ediv_of_nonneg h0]
  have h2 := Int.ediv_nonneg h0 (Int.le_of_lt hd)
  have h3 := Int.ediv_le_self d h0
  exact IntWalk.i64_in _ (by omega)
theorem tmod_mod (n d : Int) (h0 : 0 ≤ n) : n.tmod d = n % d := Int.tmod_eq_emod_of_nonneg h0
theorem wrap_mod (n d : Int) (hd : 0 < d) (hd1 : d ≤ 1000000000000000000) : IntKind.i64.wrap (n % d) = n % d := by
  have h2 := Int.emod_nonneg n (show d ≠ 0 by omega)
  have h3 := Int.emod_lt_of_pos n hd
  exact IntWalk.i64_in _ (by omega)
theorem slice_ijk (y K : Int) (eK : y / 100 - 18 = K) (x : UInt8) (hx : b8 (y / 100 + 55) = x) (h0 : 0 ≤ K) (h1 : K ≤ 2) (w : World) :
    (Instr.slice 9 (.string ⟨#[73, 74, 75]⟩) (some (.int .i64 K)) (some (.int .i64 (K + 1))) none).run Tryd.prog w = .ok (.string ⟨[x].toArray⟩) w := by
  have key : ∀ k : Nat, k < 3 → (⟨#[73, 74, 75]⟩ : ByteArray).extract k (k + 1) = ⟨[b8 ((k : Int) + 73)].toArray⟩ := by decide +kernel
  obtain ⟨k, rfl⟩ := Int.eq_ofNat_of_zero_le h0
  have hs : (⟨#[73, 74, 75]⟩ : ByteArray).size = 3 := rfl
  have e : y / 100 + 55 = (k : Int) + 73 := by omega
  rw [← hx, e, ← key k (by omega), run_slice_string_if (P := Tryd.prog) (w := w) 9 _ .i64 .i64 (k : Int) ((k : Int) + 1) Tryd.underlying9, if_pos ⟨by omega, by rw [hs]; omega⟩, if_pos ⟨by omega, by omega⟩, Int.toNat_natCast, show ((k : Int) + 1).toNat = k + 1 by omega]
def RPackOk (n y h s c : Int) (w : World) (e : Ending) (w' : World) : Prop := e = .returned (.string ⟨(packG ⟨n, y, h, s, c⟩).toArray⟩) ∧ Below w.heap.size w w'
theorem packG_bigR (m y h s c : Int) (h0 : 0 ≤ m) (h1 : m ≤ 14776335) : packG ⟨m + 620000, y, h, s, c⟩ = [126, dig62 (m / 238328).toNat, dig62 (m / 3844 % 62).toNat, dig62 (m / 62 % 62).toNat, dig62 (m % 62).toNat] := by
  rw [packG_big m y h s c h0 h1, show m / 62 / 62 / 62 = m / 238328 by omega, show m / 62 / 62 = m / 3844 by omega]
theorem decI (n : Int) (d : Nat) (w : World) (h0 : 0 ≤ n) (h1 : n < 10 ^ 18) (hd : 1 ≤ d) (hd1 : d ≤ 18) (D : Int) (hD : D = d) :
    Calls Tryd.prog 72 #[.int .i64 n, .int .i64 D] w fun e w' => e = .returned (.string ⟨(padL n d).toArray⟩) ∧ w = w' := by
  subst hD
  obtain ⟨k, rfl⟩ := Int.eq_ofNat_of_zero_le h0
  exact decimal_any k d w (by omega) hd hd1
end Dw
end Go.Proofs.YtafeigpmldgifaaDoor
/-
  Parse of package desig: what the walk keeps in memory.
-/
namespace Go.Proofs.YtafeigpmldgifaaDoor
namespace Dw
open Go.RowKit Dp Lw

theorem range_set {w : World} {b : Nat} {cs : List Value} (h : w.rangeAt b 0 cs) (j : Nat) (hj : j < cs.length) (v : Value) : (w.setCell ⟨b, j, none⟩ v).rangeAt b 0 (cs.set j v) := fun i x hx => by
  have hu : w.cell? ⟨b, j, none⟩ = some cs[j] := by have := h j cs[j] (List.getElem?_eq_getElem hj); simpa using this
  have hi : i < cs.length := by have := (List.getElem?_eq_some_iff.1 hx).1; simpa using this
  rw [Nat.zero_add]
  by_cases e : j = i
  · subst e
    rw [World.cell?_setCell_same _ _ _ hu]
    rw [List.getElem?_set_self hj] at hx
    exact hx
  · rw [World.cell?_setCell_other _ _ _ _ (by intro g; injection g with _ g2 _; exact e g2)]
    rw [List.getElem?_set_ne e] at hx
    have := h i x hx
    rwa [Nat.zero_add] at this
theorem there_set {w : World} {b n : Nat} (h : w.there b 0 n) (a : Addr) (v : Value) : (w.setCell a v).there b 0 n := fun j hj => by
  refine ⟨?_, by rw [World.frozen?_setCell]; exact (h j hj).2⟩
  obtain ⟨u, hu⟩ := Option.isSome_iff_exists.1 (h j hj).1
  obtain ⟨v', hv'⟩ := cell?_setCell_some (w := w) (p := a) (x := v) (q := ⟨b, 0 + j, none⟩) (v := u) hu
  rw [hv']; rfl
/-- Two boxes: the result's and the designation's, which holds cs. -/
structure PS (w : World) (cs : List Value) (w' : World) : Prop where
  res : w'.there w.heap.size 0 5
  row : w'.rangeAt (w.heap.size + 1) 0 cs
  there : w'.there (w.heap.size + 1) 0 5
  lt : w.heap.size + 1 < w'.heap.size
  below : Below w.heap.size w w'
theorem PS.call {w : World} {cs : List Value} {a b : World} (h : PS w cs a) (hb : Below a.heap.size a b) : PS w cs b :=
  ⟨there_below h.res hb (Nat.lt_of_succ_lt h.lt), rangeAt_below h.row hb h.lt, there_below h.there hb h.lt, Nat.lt_of_lt_of_le h.lt hb.size, below_then h.below hb⟩
theorem PS.new (w : World) : PS w (desigC 0 0 0 0 0) ((w.alloc (.cells (desigC 0 0 0 0 0).toArray 50)).alloc (.cells (desigC 0 0 0 0 0).toArray 50)) := by
  have e : (w.alloc (.cells (desigC 0 0 0 0 0).toArray 50)).heap.size = w.heap.size + 1 := by simp
  have r := rangeAt_new (w.alloc (.cells (desigC 0 0 0 0 0).toArray 50)) (desigC 0 0 0 0 0) 50
  have t := there_new (w.alloc (.cells (desigC 0 0 0 0 0).toArray 50)) (desigC 0 0 0 0 0).toArray 50 5 (by simp)
  rw [e] at r t
  exact ⟨there_below (there_new w _ _ 5 (by simp)) ((Below.refl _ _).alloc (Nat.le_refl _) _) (by simp), r, t, by simp, ((Below.refl _ _).alloc (Nat.le_refl _) _).alloc (by simp) _⟩
theorem PS.set {w : World} {cs cs' : List Value} {a : World} (h : PS w cs a) (j : Nat) (v : Value) (hj : j < cs.length) (he : cs.set j v = cs') : PS w cs' (a.setCell ⟨w.heap.size + 1, j, none⟩ v) :=
  ⟨there_set h.res _ _, he ▸ range_set h.row j hj v, there_set h.there _ _, by simpa using h.lt, h.below.setCell (Nat.le_succ _) v⟩
theorem PS.fr {w : World} {cs : List Value} {a : World} (h : PS w cs a) (j : Nat) (hj : j < 5) : a.frozen? ⟨w.heap.size + 1, j, none⟩ = false := by
  have := (h.there j hj).2
  rwa [Nat.zero_add] at this
theorem PS.cell {w : World} {cs : List Value} {a : World} (h : PS w cs a) (j : Nat) (v : Value) (hv : cs[j]? = some v) : a.cell? ⟨w.heap.size + 1, j, none⟩ = some v := by
  have := h.row j v hv
  rwa [Nat.zero_add] at this
def ParsePost (s : ByteArray) (w : World) (e : Ending) (w' : World) : Prop := ∃ (d : Dg) (k : Int), e = .returned (.tuple #[.agg (desigC d.n d.y d.h d.s d.c).toArray, .int .i64 k]) ∧ ParseIs s.data.toList d k ∧ Below w.heap.size w w'
def UnpackPost (s : ByteArray) (w : World) (e : Ending) (w' : World) : Prop := ∃ (d : Dg) (k : Int), e = .returned (.tuple #[.agg (desigC d.n d.y d.h d.s d.c).toArray, .int .i64 k]) ∧ UnpackIs s.data.toList d k ∧ Below w.heap.size w w'
theorem str_beq (l : List UInt8) (s : ByteArray) : ((⟨l.toArray⟩ : ByteArray).toList == s.toList) = decide (l = s.data.toList) := by
  rw [Lib.toList_data, Lib.toList_data, Bool.eq_iff_iff]
  simp
theorem str_bne (l : List UInt8) (s : ByteArray) : ((⟨l.toArray⟩ : ByteArray).toList != s.toList) = decide (l ≠ s.data.toList) := by
  unfold bne
  rw [str_beq]
  simp
end Dw
end Go.Proofs.YtafeigpmldgifaaDoor
/-
  Parse of package desig.
-/
namespace Go.Proofs.YtafeigpmldgifaaDoor
namespace Dw
open Go.RowKit Dp Lw

theorem ext_take (s : ByteArray) (k : Nat) : (s.extract 0 k).data.toList = s.data.toList.take k := by simp
theorem ext_drop (s : ByteArray) (k : Nat) : (s.extract k s.size).data.toList = s.data.toList.drop k := by
  rw [ByteArray.data_extract, Array.toList_extract, List.extract_eq_take_drop]
  exact List.take_of_length_le (by simp)
theorem ext_size (s : ByteArray) (a b : Nat) : (s.extract a b).size ≤ s.size := by
  rw [ByteArray.size_extract]
  omega
theorem getD_at (s : ByteArray) (k : Nat) (h : k < s.size) : ((s.data.toList.getD k 0).toNat : Int) = (s[k].toNat : Int) := by
  have : s.data.toList[k]? = some s[k] := by
    rw [List.getElem?_eq_getElem (by simpa using h)]
    rfl
  rw [List.getD_eq_getElem?_getD, this]
  rfl
theorem cand_at (s : ByteArray) {n y c : Int} {o1 o2 : Bool} (hw : WholeIs 10 s.data.toList n false) (h1 : WholeIs 10 (s.extract 0 4).data.toList y o1) (h2 : WholeIs 10 (s.extract 7 s.size).data.toList c o2) (i5 : 5 < s.size) (i6 : 6 < s.size) :
    CandT s.data.toList ⟨0, y, (s[5].toNat : Int), (s[6].toNat : Int), c⟩ := by
  rw [ext_take] at h1
  rw [ext_drop] at h2
  have h := prog_prov hw h1 h2
  rwa [getD_at s 5 i5, getD_at s 6 i6] at h
set_option maxRecDepth 100000 in
set_option maxHeartbeats 8000000 in
theorem parse_any (s : ByteArray) (w : World) (hT : Tb w) (hs : s.size ≤ 1000) :
    Calls Tryd.prog 29 #[.string s] w (ParsePost s w) := by
  have p0 := PS.new w
  have W0 := Lib.hid (whole_10 s ((w.alloc (.cells (desigC 0 0 0 0 0).toArray 50)).alloc (.cells (desigC 0 0 0 0 0).toArray 50)) (by omega))
  have HT := Lib.hid hT
  clear hT
  go_enter Tryd.func29, Tryd.ntmps29
  go_wp2_with fail
  refine W0.out.mono ?_
  rintro e w1 ⟨n, ok, rfl, hw, hb⟩
  have p1 := p0.call hb
  clear p0 hb W0
  cases ok with
  | true =>
    have c0 := p1.cell 0 _ rfl
    have f0 := p1.fr 0 (by omega)
    have p2 := Lib.hid (p1.set 0 (.int .i64 n) (by simp) (cs' := desigC n 0 0 0 0) rfl)
    have cd := Lib.hid (prog_num hw)
    clear hw p1
    by_cases g : okD n 0 0 0 0
    · obtain ⟨T, eT⟩ : ∃ T, textG ⟨n, 0, 0, 0, 0⟩ = T := ⟨_, rfl⟩
      have TC := Text_ok n 0 0 0 0 _ (HT.out.below p2.out.below) (by omega) (by omega) (by omega) (by omega) g
      unfold TextOk at TC
      rw [eT] at TC
      have TC := Lib.hid TC
      by_cases ht : T = s.data.toList
      · have bt : (T == s.toList) = true := by rw [Lib.toList_data]; simp [ht]
        have FN := Lib.hid (ParseIs.yes (l := s.data.toList) (d := ⟨n, 0, 0, 0, 0⟩) g (eT.trans ht))
        clear eT ht
        go_wp2_with (refine wpList_load_mid rfl _ (.tmp 4) rfl (w.heap.size + 1) 0 rfl (desigC n 0 0 0 0) _ p2.out.row Tryd.underlying50 rfl info5d ?_)
        refine TC.out.mono ?_
        rintro e w9 ⟨rfl, hb⟩
        have p9 := p2.out.call hb
        clear TC hb
        go_wp2_with (first | (refine wpList_load_mid rfl _ (.tmp 4) rfl (w.heap.size + 1) 0 rfl (desigC n 0 0 0 0) _ p9.row Tryd.underlying50 rfl info5d ?_) | (refine wpList_store_mid rfl _ (.tmp 2) (.tmp 53) rfl w.heap.size 0 _ rfl rfl ?_ info5d ?_ ?_; exact p9.res; simp [Value.oneCell']))
        exact bodyPost_ret (ret_cell_tmp Tryd.results29 _ _ w.heap.size (desigC n 0 0 0 0) _ rfl (World.rangeAt_setCells_same _ _ _ _ p9.res) Tryd.underlying50 rfl info5d) rfl ⟨⟨n, 0, 0, 0, 0⟩, 0, rfl, FN.out, below_setCells _ (Nat.le_refl _) _ _ _ p9.below⟩
      · have bt : (T == s.toList) = false := by rw [Lib.toList_data]; simp [ht]
        have FN := Lib.hid (ParseIs.no cd.out (fun x => ht (eT.symm.trans x.2)))
        clear eT ht
        go_wp2_with (refine wpList_load_mid rfl _ (.tmp 4) rfl (w.heap.size + 1) 0 rfl (desigC n 0 0 0 0) _ p2.out.row Tryd.underlying50 rfl info5d ?_)
        refine TC.out.mono ?_
        rintro e w9 ⟨rfl, hb⟩
        have p9 := p2.out.call hb
        clear TC hb
        go_wp2_with (refine wpList_store_mid rfl _ (.tmp 2) (.tmp 52) rfl w.heap.size 0 _ rfl rfl ?_ info5d ?_ ?_; exact p9.res; simp [Value.oneCell'])
        exact bodyPost_ret (ret_cell_tmp Tryd.results29 _ _ w.heap.size (desigC 0 0 0 0 0) _ rfl (World.rangeAt_setCells_same _ _ _ _ p9.res) Tryd.underlying50 rfl info5d) rfl ⟨zeroG, 12, rfl, FN.out, below_setCells _ (Nat.le_refl _) _ _ _ p9.below⟩
    · have TC := Lib.hid (text_no n 0 0 0 0 _ (HT.out.below p2.out.below) (by omega) (by omega) (by omega) (by omega) g)
      have FN := Lib.hid (ParseIs.no cd.out (fun x => g x.1))
      clear g
      go_wp2_with (refine wpList_load_mid rfl _ (.tmp 4) rfl (w.heap.size + 1) 0 rfl (desigC n 0 0 0 0) _ p2.out.row Tryd.underlying50 rfl info5d ?_)
      refine TC.out.mono ?_
      rintro e w9 ⟨rfl, hb⟩
      have p9 := p2.out.call hb
      clear TC hb
      go_wp2_with (refine wpList_store_mid rfl _ (.tmp 2) (.tmp 52) rfl w.heap.size 0 _ rfl rfl ?_ info5d ?_ ?_; exact p9.res; simp [Value.oneCell'])
      exact bodyPost_ret (ret_cell_tmp Tryd.results29 _ _ w.heap.size (desigC 0 0 0 0 0) _ rfl (World.rangeAt_setCells_same _ _ _ _ p9.res) Tryd.underlying50 rfl info5d) rfl ⟨zeroG, 12, rfl, FN.out, below_setCells _ (Nat.le_refl _) _ _ _ p9.below⟩
  | false =>
    by_cases h7 : 7 ≤ s.size
    · have h7' : (7 : Int) ≤ (s.size : Int) := by omega
      have WA := Lib.hid (whole_10 (s.extract 0 4) w1 (by have := ext_size s 0 4; omega))
      have HW := Lib.hid hw
      clear hw
      go_wp2_with fail
      refine WA.out.mono ?_
      rintro e w2 ⟨y, o1, rfl, hw1, hb⟩
      have p2 := p1.call hb
      clear p1 hb WA
      have HW1 := Lib.hid hw1
      clear hw1
      have c1 := p2.cell 1 _ rfl
      have f1 := p2.fr 1 (by omega)
      have p3 := p2.set 1 (.int .i64 y) (by simp) (cs' := desigC 0 y 0 0 0) rfl
      clear p2
      have i5 : 5 < s.size := by omega
      have i6 : 6 < s.size := by omega
      have i5' : (5 : Int) < (s.size : Int) := by omega
      have i6' : (6 : Int) < (s.size : Int) := by omega
      have x5 := byte_bd s[5]
      have x6 := byte_bd s[6]
      have c2 := p3.cell 2 _ rfl
      have f2 := p3.fr 2 (by omega)
      have c3 := p3.cell 3 _ rfl
      have f3 := p3.fr 3 (by omega)
      have PA := ((p3.set 2 (.int .u8 (s[5].toNat : Int)) (by simp) (cs' := desigC 0 y (s[5].toNat : Int) 0 0) rfl).set 3 (.int .u8 (s[6].toNat : Int)) (by simp) (cs' := desigC 0 y (s[5].toNat : Int) (s[6].toNat : Int) 0) rfl).call ((Below.refl _ _).drew)
      have PB := ((p3.set 3 (.int .u8 (s[6].toNat : Int)) (by simp) (cs' := desigC 0 y 0 (s[6].toNat : Int) 0) rfl).set 2 (.int .u8 (s[5].toNat : Int)) (by simp) (cs' := desigC 0 y (s[5].toNat : Int) (s[6].toNat : Int) 0) rfl).call ((Below.refl _ _).drew)
      have PA := Lib.hid PA
      have PB := Lib.hid PB
      clear p3
      go_wp2_with fail
      go_region
      go_wp2_with fail
      refine (whole_10 (s.extract 7 s.size) _ (by have := ext_size s 7 s.size; omega)).mono ?_
      rintro e w3 ⟨c, o2, rfl, hw2, hb⟩
      have p4 := (by first | exact PA.out | exact PB.out : PS w (desigC 0 y (s[5].toNat : Int) (s[6].toNat : Int) 0) _).call hb
      clear PA PB hb c1 c2 c3 f1 f2 f3
      have cd := cand_at s HW.out HW1.out hw2 i5 i6
      have cd := Lib.hid cd
      clear HW HW1 hw2
      have c4 := p4.cell 4 _ rfl
      have f4 := p4.fr 4 (by omega)
      have p2 := Lib.hid (p4.set 4 (.int .i64 c) (by simp) (cs' := desigC 0 y (s[5].toNat : Int) (s[6].toNat : Int) c) rfl)
      clear p4
      obtain ⟨h, eh⟩ : ∃ h, (s[5].toNat : Int) = h := ⟨_, rfl⟩
      obtain ⟨u, eu⟩ : ∃ u, (s[6].toNat : Int) = u := ⟨_, rfl⟩
      rw [eh] at x5
      rw [eu] at x6
      replace cd := by
        have := cd.out
        rw [eh, eu] at this
        exact Lib.hid this
      replace p2 := by
        have := p2.out
        rw [eh, eu] at this
        exact Lib.hid this
      by_cases g : okD 0 y h u c
      · obtain ⟨T, eT⟩ : ∃ T, textG ⟨0, y, h, u, c⟩ = T := ⟨_, rfl⟩
        have TC := Text_ok 0 y h u c _ (HT.out.below p2.out.below) x5.1 x5.2 x6.1 x6.2 g
        unfold TextOk at TC
        rw [eT] at TC
        have TC := Lib.hid TC
        by_cases ht : T = s.data.toList
        · have bt : (T == s.toList) = true := by rw [Lib.toList_data]; simp [ht]
          have FN := Lib.hid (ParseIs.yes (l := s.data.toList) (d := ⟨0, y, h, u, c⟩) g (eT.trans ht))
          clear eT ht
          go_wp2_with (refine wpList_load_mid rfl _ (.tmp 4) rfl (w.heap.size + 1) 0 rfl (desigC 0 y h u c) _ p2.out.row Tryd.underlying50 rfl info5d ?_)
          refine TC.out.mono ?_
          rintro e w9 ⟨rfl, hb⟩
          have p9 := p2.out.call hb
          clear TC hb
          go_wp2_with (first | (refine wpList_load_mid rfl _ (.tmp 4) rfl (w.heap.size + 1) 0 rfl (desigC 0 y h u c) _ p9.row Tryd.underlying50 rfl info5d ?_) | (refine wpList_store_mid rfl _ (.tmp 2) (.tmp 53) rfl w.heap.size 0 _ rfl rfl ?_ info5d ?_ ?_; exact p9.res; simp [Value.oneCell']))
          exact bodyPost_ret (ret_cell_tmp Tryd.results29 _ _ w.heap.size (desigC 0 y h u c) _ rfl (World.rangeAt_setCells_same _ _ _ _ p9.res) Tryd.underlying50 rfl info5d) rfl ⟨⟨0, y, h, u, c⟩, 0, rfl, FN.out, below_setCells _ (Nat.le_refl _) _ _ _ p9.below⟩
        · have bt : (T == s.toList) = false := by rw [Lib.toList_data]; simp [ht]
          have FN := Lib.hid (ParseIs.no cd.out (fun x => ht (eT.symm.trans x.2)))
          clear eT ht
          go_wp2_with (refine wpList_load_mid rfl _ (.tmp 4) rfl (w.heap.size + 1) 0 rfl (desigC 0 y h u c) _ p2.out.row Tryd.underlying50 rfl info5d ?_)
          refine TC.out.mono ?_
          rintro e w9 ⟨rfl, hb⟩
          have p9 := p2.out.call hb
          clear TC hb
          go_wp2_with (refine wpList_store_mid rfl _ (.tmp 2) (.tmp 52) rfl w.heap.size 0 _ rfl rfl ?_ info5d ?_ ?_; exact p9.res; simp [Value.oneCell'])
          exact bodyPost_ret (ret_cell_tmp Tryd.results29 _ _ w.heap.size (desigC 0 0 0 0 0) _ rfl (World.rangeAt_setCells_same _ _ _ _ p9.res) Tryd.underlying50 rfl info5d) rfl ⟨zeroG, 12, rfl, FN.out, below_setCells _ (Nat.le_refl _) _ _ _ p9.below⟩
      · have TC := Lib.hid (text_no 0 y h u c _ (HT.out.below p2.out.below) x5.1 x5.2 x6.1 x6.2 g)
        have FN := Lib.hid (ParseIs.no cd.out (fun x => g x.1))
        clear g
        go_wp2_with (refine wpList_load_mid rfl _ (.tmp 4) rfl (w.heap.size + 1) 0 rfl (desigC 0 y h u c) _ p2.out.row Tryd.underlying50 rfl info5d ?_)
        refine TC.out.mono ?_
        rintro e w9 ⟨rfl, hb⟩
        have p9 := p2.out.call hb
        clear TC hb
        go_wp2_with (refine wpList_store_mid rfl _ (.tmp 2) (.tmp 52) rfl w.heap.size 0 _ rfl rfl ?_ info5d ?_ ?_; exact p9.res; simp [Value.oneCell'])
        exact bodyPost_ret (ret_cell_tmp Tryd.results29 _ _ w.heap.size (desigC 0 0 0 0 0) _ rfl (World.rangeAt_setCells_same _ _ _ _ p9.res) Tryd.underlying50 rfl info5d) rfl ⟨zeroG, 12, rfl, FN.out, below_setCells _ (Nat.le_refl _) _ _ _ p9.below⟩
    · have h7' : ¬ (7 : Int) ≤ (s.size : Int) := by omega
      have cd := Lib.hid (prog_none hw (by have := size_data s; omega))
      have p2 := Lib.hid p1
      clear hw p1
      have g : ¬ okD 0 0 0 0 0 := by unfold okD; omega
      · have TC := Lib.hid (text_no 0 0 0 0 0 _ (HT.out.below p2.out.below) (by omega) (by omega) (by omega) (by omega) g)
        have FN := Lib.hid (ParseIs.no cd.out (fun x => g x.1))
        clear g
        go_wp2_with (refine wpList_load_mid rfl _ (.tmp 4) rfl (w.heap.size + 1) 0 rfl (desigC 0 0 0 0 0) _ p2.out.row Tryd.underlying50 rfl info5d ?_)
        refine TC.out.mono ?_
        rintro e w9 ⟨rfl, hb⟩
        have p9 := p2.out.call hb
        clear TC hb
        go_wp2_with (refine wpList_store_mid rfl _ (.tmp 2) (.tmp 52) rfl w.heap.size 0 _ rfl rfl ?_ info5d ?_ ?_; exact p9.res; simp [Value.oneCell'])
        exact bodyPost_ret (ret_cell_tmp Tryd.results29 _ _ w.heap.size (desigC 0 0 0 0 0) _ rfl (World.rangeAt_setCells_same _ _ _ _ p9.res) Tryd.underlying50 rfl info5d) rfl ⟨zeroG, 12, rfl, FN.out, below_setCells _ (Nat.le_refl _) _ _ _ p9.below⟩
end Dw
end Go.Proofs.YtafeigpmldgifaaDoor
/-
  copy of bytes from one slice to another, by cells.
-/
namespace Go.Proofs.YtafeigpmldgifaaDoor
namespace Arw
open Go.RowKit Lw Go.Proofs.YtafeigpmldgifaaDoor.Arp

theorem run_copy_sl {P : Program} (w : World) (dT sT ty elem : TypeId) (g o dLen dCap : Nat) (a : Addr) (n cap : Nat) (vs : List Value)
    (hu : P.underlying dT = some (.slice elem)) (hs : (P.info? elem).map (·.size) = some 1) (hle : n ≤ dLen) (hn : vs.length = n) (hv : ∀ j v, vs[j]? = some v → w.cell? (a.add j) = some v) (one : ∀ v ∈ vs, v.oneCell' = true)
    (ht : ∀ j, j < n → (w.cell? ⟨g, o + j, none⟩).isSome = true) (hf : ∀ j, j < n → w.frozen? ⟨g, o + j, none⟩ = false) :
    (Builtin.copy_ #[dT, sT] ty #[.slice (some ⟨g, o, none⟩) dLen dCap, .slice (some a) n cap]).run P w = .ok (goInt n) (w.setCells g o vs) := by
  have hst := run_storeCells_cells (P := P) g o vs 0 w (fun j hj => ht j (by omega)) (fun j hj => hf j (by omega)) one
  have hmin : Nat.min n dLen = n := Nat.min_eq_left hle
  have hld := run_loadCells_list (P := P) (w := w) a vs hv
  rw [hn] at hld
  simp only [Nat.add_zero] at hst
  cases hq : P.info? elem with
  | none => simp [hq] at hs
  | some i =>
    have hi : i.size = 1 := by simpa [hq] using hs
    simp [Builtin.copy_, run_underlying hu, Builtin.lenOf, Builtin.firstCells, sizeOf, typeInfo, hq, hmin, hi, hld, Result.andThen, hst]
end Arw
end Go.Proofs.YtafeigpmldgifaaDoor
/-
  An element of an array by value.
-/
namespace Go.Proofs.YtafeigpmldgifaaDoor
namespace Arw
open Go.RowKit Lw Go.Proofs.YtafeigpmldgifaaDoor.Arp

theorem idx_agg {n : Nat} {e : TypeId} (W : World) (t : TypeId) (cs : Array Value) (k : Nat) (v : Value) (ht : Tryd.prog.underlying t = some (.array n e)) (hs : (sizeOf e).run Tryd.prog W = .ok 1 W) (ha : (isAgg e).run Tryd.prog W = .ok false W) (hk : k < n) (hv : cs[k]? = some v) :
    (Instr.index t (.agg cs) (.int .i64 (k : Int))).run Tryd.prog W = .ok v W := by
  have h1 : (0 : Int) ≤ (k : Int) ∧ (k : Int) < (n : Int) := by omega
  have h2 : (k : Int) < (n : Int) := h1.2
  simp [Instr.index, run_underlying ht, asIntOf, h2, part, hs, ha, hv, Result.andThen, Sem.run_bind, Sem.run_pure, hk]
theorem idx_key (W : World) (k : Nat) (hk : k < 64) : (Instr.index 102 (.agg (w32L keyL).toArray) (.int .i64 (k : Int))).run Tryd.prog W = .ok (.int .u32 ((keyL.getD k 0 : Nat) : Int)) W := by
  refine idx_agg W _ _ k _ Tryd.underlying102 (by kernel_rfl) (by kernel_rfl) hk ?_
  have hl : k < keyL.length := hk
  rw [List.getElem?_toArray]
  refine w32L_get ?_
  rw [List.getD_eq_getElem?_getD, List.getElem?_eq_getElem hl]
  rfl
theorem idx_eight (W : World) (l : List Nat) (k : Nat) (hl : l.length = 8) (hk : k < 8) : (Instr.index 86 (.agg (w32L l).toArray) (.int .i64 (k : Int))).run Tryd.prog W = .ok (.int .u32 ((l.getD k 0 : Nat) : Int)) W := by
  refine idx_agg W _ _ k _ Tryd.underlying86 (by kernel_rfl) (by kernel_rfl) hk ?_
  have hl2 : k < l.length := by omega
  rw [List.getElem?_toArray]
  refine w32L_get ?_
  rw [List.getD_eq_getElem?_getD, List.getElem?_eq_getElem hl2]
  rfl
end Arw
end Go.Proofs.YtafeigpmldgifaaDoor
