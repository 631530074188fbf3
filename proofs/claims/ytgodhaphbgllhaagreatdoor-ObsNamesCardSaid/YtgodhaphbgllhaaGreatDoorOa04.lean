/-
  Lemmas and walks, texts joined: MDayA, MRdPl2, MPDay, MNmPl, PNum, PTen, PRnd, PCom, PParts, PParts2, PSpec, OPl, PRead.
-/
import Derived.LoopTactic
import Derived.Lib.AtoiErrMem
import Derived.ProofKit
import Derived.Lib.Hide
import Derived.Laws.RangeAny
import Derived.Deep.QuietTactic
import Derived.BigQuiet
import Derived.WalkLawsBesides
import Derived.WalkSpells
import Derived.Laws.BitsAllLaws
import Derived.Deep.RegionHeld3
import Derived.Laws.IdiomStrings
import Derived.Deep.DeepCutAuto
import Derived.Test.YtgodhaphbgllhaaGreatDoorOa03
import Derived.Test.YtgodhaphbgllhaaGreatDoorOa01
import Derived.Test.YtgodhaphbgllhaaGreatDoorRows
set_option linter.unusedSimpArgs false
set_option linter.unusedVariables false
/-
  What ParseDay calls: slices.ContainsFunc at bytes, strconv.ParseUint at digits; and what its text says.
-/
namespace Go.Proofs.YtgodhaphbgllhaaGreatDoor
namespace Ap
open Go.RowKit Lw Go.Proofs.YtgodhaphbgllhaaGreatDoor.Mp

/-- The bytes of a string in a block. -/
def Held (s : ByteArray) (B : Nat) (w' : World) : Prop := B < w'.heap.size ∧ ∀ j (h : j < s.size), w'.cell? ⟨B, j, none⟩ = some (.int .u8 (s[j].toNat : Int))
theorem bytes_in (w : World) (s : ByteArray) : ∃ (W : World) (cap : Nat), (convert 9 42 (.string s)).run Tryz.prog w = .ok (.slice (some ⟨w.heap.size, 0, none⟩) s.size cap) W ∧ Held s w.heap.size W ∧ Below w.heap.size w W ∧ s.size ≤ cap := by
  refine ⟨_, _, run_bytes_of_string (P := Tryz.prog) w 9 42 5 s Tryz.underlying9 Tryz.underlying42 Tryz.underlying5, ⟨by simp, fun j hj => ?_⟩, ((Below.refl _ w).drew).alloc (Nat.le_refl _) _, ?_⟩
  · rw [cell_of_row (World.alloc _ _) w.heap.size j (bytesRow s (grownCap w s.size 0 5)) 5 ((bytesRow s (grownCap w s.size 0 5)).size, (bytesRow s (grownCap w s.size 0 5)).size + 1) (by show (w.heap.push _)[w.heap.size]? = _; simp)]
    have hj' : j < s.data.size := hj
    unfold bytesRow
    rw [Array.getElem?_append_left (by simpa using hj'), Array.getElem?_map, Array.getElem?_eq_getElem hj']
    rfl
  · exact grownCap_ge w s.size 0 _
theorem dig_any (c : Int) (w : World) : Calls Tryz.prog 96 #[.int .u8 c] w fun e w' => e = .returned (.bool (decide (¬ (48 ≤ c ∧ c ≤ 57)))) ∧ w = w' := by
  by_cases h1 : c < 48
  · have e : decide (¬ (48 ≤ c ∧ c ≤ 57)) = true := decide_eq_true (by omega)
    rw [e]
    go_enter Tryz.func96, Tryz.ntmps96
    go_wp2
    go_ret
    exact ⟨rfl, rfl⟩
  · by_cases h2 : 57 < c
    · have e : decide (¬ (48 ≤ c ∧ c ≤ 57)) = true := decide_eq_true (by omega)
      rw [e]
      go_enter Tryz.func96, Tryz.ntmps96
      go_wp2
      go_ret
      exact ⟨rfl, rfl⟩
    · have e : decide (¬ (48 ≤ c ∧ c ≤ 57)) = false := decide_eq_false (by omega)
      rw [e]
      go_enter Tryz.func96, Tryz.ntmps96
      go_wp2
      go_ret
      exact ⟨rfl, rfl⟩
theorem allD_no {s : ByteArray} {k : Nat} (hk : k < s.size) (h : ¬ (48 ≤ (s[k].toNat : Int) ∧ (s[k].toNat : Int) ≤ 57)) : ¬ allD s.data.toList := fun g => by
  have := (allD_bt s).1 g k hk
  rw [bt_of s k hk] at this
  exact h this
theorem allD_yes {s : ByteArray} {k : Nat} (hk : ¬ k < s.size) (h : allD (s.data.toList.take k)) : allD s.data.toList := by rwa [take_all s k hk] at h
set_option maxRecDepth 100000 in
set_option maxHeartbeats 2000000 in
theorem index_any (s : ByteArray) (B cap : Nat) (w : World) (hs : s.size ≤ 1000) (hH : Held s B w) :
    Calls Tryz.prog 147 #[.slice (some ⟨B, 0, none⟩) s.size cap, .func (.func 96) #[] #[]] w fun e w' => ∃ r : Int, e = .returned (.int .i64 r) ∧ (0 ≤ r ↔ ¬ allD s.data.toList) ∧ w = w' := by
  go_enter Tryz.func147, Tryz.ntmps147
  go_wp2_with fail
  go_loop [8] (fun i => ∃ k : Nat, k ≤ s.size ∧ i = .int .i64 k ∧ Hid (allD (s.data.toList.take k))) (fun i => s.size - (intOf i).toNat)
  case atStart => exact ⟨0, Nat.zero_le _, rfl, Lib.hid (by intro c hc; simp at hc)⟩
  case round =>
    obtain ⟨k, hk, rfl, D⟩ := hrel
    by_cases hlt : k < s.size
    · have i1 : (k : Int) < (s.size : Int) := by omega
      have i0 : 0 ≤ (k : Int) := by omega
      have ck := hH.2 k hlt
      by_cases d : 48 ≤ (s[k].toNat : Int) ∧ (s[k].toNat : Int) ≤ 57
      · have D2 := Lib.hid (show allD (s.data.toList.take (k + 1)) by rw [take_snoc s k hlt]; exact allD_snoc D.out d.1 d.2)
        have DA := fun w' => dig_any (s[k].toNat : Int) w'
        rw [show decide (¬ (48 ≤ (s[k].toNat : Int) ∧ (s[k].toNat : Int) ≤ 57)) = false from decide_eq_false (not_not_intro d)] at DA
        replace DA := Lib.hid DA
        clear d
        go_wp2_with (go_at_call 96; refine (DA.out _).mono ?_; rintro e w' ⟨rfl, rfl⟩)
        go_round
        case rel => exact ⟨k + 1, by omega, by go_num, D2⟩
        case measure => simp [intOf]; omega
      · have N := Lib.hid (allD_no hlt d)
        have DA := fun w' => dig_any (s[k].toNat : Int) w'
        rw [show decide (¬ (48 ≤ (s[k].toNat : Int) ∧ (s[k].toNat : Int) ≤ 57)) = true from decide_eq_true d] at DA
        replace DA := Lib.hid DA
        clear d
        go_wp2_with (go_at_call 96; refine (DA.out _).mono ?_; rintro e w' ⟨rfl, rfl⟩)
        go_ret
        exact ⟨k, rfl, ⟨fun _ => N.out, fun _ => by omega⟩, rfl⟩
    · have N := Lib.hid (allD_yes hlt D.out)
      go_wp2_with fail
      go_ret
      exact ⟨-1, rfl, ⟨fun g => absurd g (by decide), fun g => absurd N.out g⟩, rfl⟩
theorem contains_any (s : ByteArray) (B cap : Nat) (w : World) (hs : s.size ≤ 1000) (hH : Held s B w) :
    Calls Tryz.prog 95 #[.slice (some ⟨B, 0, none⟩) s.size cap, .func (.func 96) #[] #[]] w fun e w' => e = .returned (.bool (decide (¬ allD s.data.toList))) ∧ w = w' := by
  go_enter Tryz.func95, Tryz.ntmps95
  go_wp2_with fail
  refine (index_any s B cap w hs hH).mono ?_
  rintro e w1 ⟨r, rfl, hr, rfl⟩
  have E := Lib.hid (show decide (¬ allD s.data.toList) = decide (0 ≤ r) from decide_eq_decide.2 hr.symm)
  clear hr
  go_wp2_with fail
  go_ret
  exact ⟨ret_b E.out.symm, rfl⟩
theorem numL_cons (l : List UInt8) : numL (48 :: l) = numL l := by
  have h48 : ((48 : UInt8).toNat : Int) = 48 := rfl
  unfold numL
  rw [List.foldl_cons, h48]
  rfl
/-- What ParseUint makes of digits. -/
theorem parse_m : ∀ (l : List UInt8) (acc : Nat), allD l → acc * 10 ^ l.length + 10 ^ l.length ≤ 1000000000000000000 → ∃ u : Nat, Lib.parseUintM (2 ^ 64 - 1) acc l = .ok u ∧ (u : Int) = l.foldl (fun n c => 10 * n + ((c.toNat : Int) - 48)) (acc : Int)
  | [], acc, _, _ => ⟨acc, rfl, rfl⟩
  | c :: r, acc, hd, hb => by
    obtain ⟨h1, h2⟩ := hd c (List.mem_cons_self ..)
    have hp : 1 ≤ 10 ^ r.length := Nat.pow_pos (by omega)
    rw [List.length_cons, Nat.pow_succ] at hb
    have hm : acc * (10 ^ r.length * 10) = acc * 10 * 10 ^ r.length := by rw [Nat.mul_comm (10 ^ r.length) 10, Nat.mul_assoc]
    rw [hm] at hb
    have hle : acc * 10 ≤ acc * 10 * 10 ^ r.length := Nat.le_mul_of_pos_right _ hp
    have hb2 : (acc * 10 + (c.toNat - 48)) * 10 ^ r.length + 10 ^ r.length ≤ 1000000000000000000 := by
      rw [Nat.add_mul]
      have : (c.toNat - 48) * 10 ^ r.length ≤ 9 * 10 ^ r.length := Nat.mul_le_mul_right _ (by omega)
      omega
    obtain ⟨u, hu, hv⟩ := parse_m r (acc * 10 + (c.toNat - 48)) (fun x hx => hd x (List.mem_cons_of_mem _ hx)) hb2
    refine ⟨u, ?_, ?_⟩
    · unfold Lib.parseUintM
      rw [if_pos ⟨by omega, by omega⟩, if_neg (by omega), if_neg (by omega)]
      exact hu
    · rw [hv, List.foldl_cons]
      congr 1
      omega
theorem parse_u (t : ByteArray) (h : allD t.data.toList) (hs : t.size ≤ 9) : ∃ u : Nat, Lib.parseUintB 64 ((⟨#[48]⟩ : ByteArray) ++ t).data.toList = .ok u ∧ (u : Int) = numL t.data.toList := by
  have e : ((⟨#[48]⟩ : ByteArray) ++ t).data.toList = 48 :: t.data.toList := by simp
  have hl : t.data.toList.length = t.size := rfl
  obtain ⟨u, hu, hv⟩ := parse_m (48 :: t.data.toList) 0 (fun c hc => by
    rcases List.mem_cons.1 hc with rfl | hc
    · exact ⟨by decide, by decide⟩
    · exact h c hc) (by
    rw [List.length_cons, hl]
    have : ∀ r : Nat, r ≤ 9 → 0 * 10 ^ (r + 1) + 10 ^ (r + 1) ≤ 1000000000000000000 := by decide
    exact this _ hs)
  refine ⟨u, ?_, ?_⟩
  · rw [e]
    unfold Lib.parseUintB
    rw [if_neg (by simp)]
    exact hu
  · rw [hv]
    exact numL_cons _
/-! ### What the program finds of a day text -/
def progD (s : ByteArray) : Prop := likeP (hdP s) P10 ∧ (ptS s < s.size → 1 ≤ (tlP s).size ∧ (tlP s).size ≤ 9) ∧ allD (tlP s).data.toList
theorem up_zero : upI (0 * 0) 1 = 0 := by decide
theorem prog_day {s : ByteArray} (g : progD s) : dayP s ∧ hdP s = s.extract 0 10 ∧ partV s = upI (numL (tlP s).data.toList * dayLen (nm s 0 4) (nm s 5 7) (nm s 8 10)) (tenI (tlP s).size) := by
  obtain ⟨lk, sz, ad⟩ := g
  have hq : ptS s = 10 := by
    have := lk.1
    rw [P10_size] at this
    have le := ptS_le s
    unfold hdP at this
    rw [size_ext _ _ _ le] at this
    omega
  have hle := ptS_le s
  have hh : hdP s = s.extract 0 10 := by unfold hdP; rw [hq]
  rw [hh] at lk
  by_cases hp : ptS s < s.size
  · have ht : tlP s = s.extract 11 s.size := by
      unfold tlP
      rw [if_pos hp, hq]
    have hs := sz hp
    rw [ht, size_ext s _ _ (by omega)] at hs
    have h46 := pt_at s hp
    rw [hq] at h46
    have ad' := ad
    rw [ht] at ad'
    refine ⟨⟨by omega, by omega, by omega, lk, fun _ => ⟨h46, (numV_nn _).2 ad'⟩⟩, hh, ?_⟩
    unfold partV
    rw [if_neg (by omega), ht, size_ext s _ _ (by omega)]
    have : nm s 11 s.size = numL (s.extract 11 s.size).data.toList := numV_yes ad'
    rw [this]
  · have ht : tlP s = ⟨#[]⟩ := if_neg hp
    refine ⟨⟨by omega, by omega, by omega, lk, fun h => absurd h (by omega)⟩, hh, ?_⟩
    unfold partV
    rw [if_pos (by omega), ht]
    have e0 : numL (⟨#[]⟩ : ByteArray).data.toList = 0 := rfl
    have e1 : tenI (⟨#[]⟩ : ByteArray).size = 1 := rfl
    rw [e0, e1, Int.zero_mul]
    rfl
theorem day_prog {s : ByteArray} (g : dayP s) : progD s := by
  obtain ⟨h10, h11, h20, lk, hm⟩ := g
  have no := like_no46 lk (by rw [size_ext s _ _ (by omega)]) P10_no
  have hq : ptS s = 10 := by
    refine pt_uniq (by omega) (fun j hj => ?_) (fun h => (hm h).1)
    have := no j (by omega)
    rw [bt_ext s 0 10 j (by omega) (by omega)] at this
    simpa using this
  have hh : hdP s = s.extract 0 10 := by unfold hdP; rw [hq]
  refine ⟨by rw [hh]; exact lk, fun hp => ?_, ?_⟩
  · have ht : tlP s = s.extract 11 s.size := by
      unfold tlP
      rw [if_pos hp, hq]
    rw [ht, size_ext s _ _ (by omega)]
    omega
  · by_cases hp : ptS s < s.size
    · have ht : tlP s = s.extract 11 s.size := by
        unfold tlP
        rw [if_pos hp, hq]
      rw [ht]
      exact (numV_nn _).1 (hm (by omega)).2
    · have ht : tlP s = ⟨#[]⟩ := if_neg hp
      rw [ht]
      exact fun c hc => absurd hc (by simp)
/-- The length of a day is the time between two beginnings. -/
theorem day_diff {y m d z k : Int} (hw : wholeP y m d) (hz : IsYM (dn y m d + 1) z k) : bgv (dn y m d + 1) z k - bgv (dn y m d) y m = dayLen y m d := by
  unfold dayLen
  rcases day_len hw hz with ⟨a, b⟩ | ⟨a, b⟩
  · unfold leapday at b
    rw [if_neg b]; omega
  · unfold leapday at b
    rw [if_pos b]; omega
theorem dayLen_bd (y m d : Int) : 86400000000 ≤ dayLen y m d ∧ dayLen y m d ≤ 86401000000 := by unfold dayLen; split <;> omega
theorem secs_len (y m d : Int) : Mw.secs y m d * 1000000 = dayLen y m d := by unfold Mw.secs dayLen; split <;> rfl
end Ap
end Go.Proofs.YtgodhaphbgllhaaGreatDoor
/-
  Plain laws of MomentRounds, second part: the time of a text, and the text of that time; no walk here.
-/
namespace Go.Proofs.YtgodhaphbgllhaaGreatDoor
namespace At
open Go.RowKit Lw Ap Go.Proofs.YtgodhaphbgllhaaGreatDoor.Mp Go.Proofs.YtgodhaphbgllhaaGreatDoor.Mw

theorem take_dec (d : Nat) : ∀ j u, (decL u (d + j)).take d = decL (u / 10 ^ j) d
  | 0, u => by
    rw [Nat.add_zero, Nat.pow_zero, Nat.div_one]
    exact List.take_of_length_le (by rw [decL_len]; omega)
  | j + 1, u => by
    rw [← Nat.add_assoc, decL, List.take_append_of_le_length (by rw [decL_len]; omega), take_dec d j (u / 10), Nat.div_div_eq_div_mul, Nat.pow_succ, Nat.mul_comm (10 ^ j) 10]
theorem last_of {s : ByteArray} {x : List UInt8} {c : UInt8} (hs : s.data.toList = x ++ [c]) : bt s (s.size - 1) = (c.toNat : Int) := by
  have sz : s.size = x.length + 1 := by have := congrArg List.length hs; simpa using this
  rw [bt_L s _ (by omega), hs, sz, Nat.add_sub_cancel, List.getD_eq_getElem?_getD, List.getElem?_append_right (Nat.le_refl _), Nat.sub_self]
  rfl
theorem micro_le {u j : Nat} : u / 10 ^ j * 10 ^ j ≤ u ∧ u < u / 10 ^ j * 10 ^ j + 10 ^ j := by
  have e := Nat.div_add_mod u (10 ^ j)
  have l := Nat.mod_lt u (show 0 < 10 ^ j from Nat.pow_pos (by omega))
  rw [Nat.mul_comm] at e
  omega
theorem dec1 {u k : Nat} {l : List UInt8} (h : u < 10 ^ k) (e : decL u k = l) : numV l = u := by rw [← e, dec_val h]
theorem micro_of {s : ByteArray} {d U : Nat} (d6 : d ≤ 6) (z7 : U < 10 ^ 6) (sz : s.size = 20 + (if 0 < d then d + 1 else 0)) (hn : 0 < d → nm s 20 (s.size - 1) = numV ((decL U 6).take d)) :
    (0 < d → 0 ≤ nm s 20 (s.size - 1)) ∧ ∃ V : Nat, microV s = V ∧ V ≤ U ∧ U < V + 10 ^ (6 - d) := by
  by_cases c : 0 < d
  · have tk : (decL U 6).take d = decL (U / 10 ^ (6 - d)) d := by
      have := take_dec d (6 - d) U
      rwa [show d + (6 - d) = 6 by omega] at this
    have eN : nm s 20 (s.size - 1) = (U / 10 ^ (6 - d) : Nat) := by
      rw [hn c, tk]
      refine dec_val ?_
      refine Nat.div_lt_of_lt_mul ?_
      rw [← Nat.pow_add]
      rwa [show 6 - d + d = 6 by omega]
    rw [if_pos c] at sz
    refine ⟨fun _ => by rw [eN]; exact Int.natCast_nonneg _, U / 10 ^ (6 - d) * 10 ^ (6 - d), ?_, micro_le.1, micro_le.2⟩
    unfold microV tenI
    rw [if_neg (by omega), eN, show 27 - s.size = 6 - d by omega]
    exact (Int.natCast_mul _ _).symm
  · obtain rfl : d = 0 := by omega
    rw [if_neg (by omega)] at sz
    refine ⟨fun h => absurd h c, 0, ?_, by omega, by omega⟩
    unfold microV
    rw [if_pos (by omega)]
    rfl
/-- The time of a text is the time, with the digits left out. -/
theorem text_parse {t d : Int} {s : ByteArray} (a : TextIs t d s 0) : ∃ v, ParseIs s v 0 ∧ v ≤ t ∧ t - v < tenI (6 - d.toNat) ∧ s.size ≤ 27 := by
  rcases a with ⟨_, _, c⟩ | ⟨_, _, _, _, c⟩ | ⟨d0, d6, b1, b2, n, y, m, z, k, hd, hs, _⟩
  · omega
  · omega
  obtain ⟨d, rfl⟩ : ∃ e : Nat, d = e := ⟨d.toNat, by omega⟩
  rw [Int.toNat_natCast] at *
  obtain ⟨f1, f2⟩ := to_from hd
  obtain ⟨Y, M, D, H, I, S, U, e1, e2, e3, e4, e5, e6, e7, z1, z2, z3, z4, z5, z6, z7⟩ := date_nat hd
  rw [e3, e4, e5, e6, e7, e1, e2] at hs
  simp only [Int.toNat_natCast] at hs
  rw [e3, e4, e5, e6, e7] at f1 f2
  have hL := text_L Y M D H I S U d
  rw [← hs] at hL
  obtain ⟨c0, c1, c2, c3, x0, i0, i1, i2, i3⟩ := dec4 Y
  obtain ⟨c4, c5, x1, i4, i5⟩ := dec2 M
  obtain ⟨c6, c7, x2, i6, i7⟩ := dec2 D
  obtain ⟨c8, c9, x3, i8, i9⟩ := dec2 H
  obtain ⟨c10, c11, x4, i10, i11⟩ := dec2 I
  obtain ⟨c12, c13, x5, i12, i13⟩ := dec2 S
  rw [x0, x1, x2, x3, x4, x5] at hL
  obtain ⟨r, hr⟩ : ∃ r, (if 0 < d then 46 :: (decL U 6).take d else []) ++ [(90 : UInt8)] = r := ⟨_, rfl⟩
  rw [hr] at hL
  have hL : s.data.toList = l19 c0 c1 c2 c3 c4 c5 c6 c7 c8 c9 c10 c11 c12 c13 r := hL
  have rl : r.length = (if 0 < d then d + 1 else 0) + 1 := by
    rw [← hr]
    by_cases c : 0 < d
    · simp [c, decL_len]; omega
    · simp [c]
  have sz : s.size = 20 + (if 0 < d then d + 1 else 0) := by
    have := congrArg List.length hL
    simp [rl] at this
    omega
  have dd : d ≤ 6 := by omega
  have sz27 : s.size ≤ 27 := by rw [sz]; split <;> omega
  have sz20 : 20 ≤ s.size := by rw [sz]; omega
  obtain ⟨n1, n2, n3, n4, n5, n6⟩ := text_nums hL
  rw [dec1 z1 x0] at n1
  rw [dec1 z2 x1] at n2
  rw [dec1 z3 x2] at n3
  rw [dec1 z4 x3] at n4
  rw [dec1 z5 x4] at n5
  rw [dec1 z6 x5] at n6
  have hn : 0 < d → nm s 20 (s.size - 1) = numV ((decL U 6).take d) := fun c => by
    rw [nm_L hL _ _ (by omega)]
    have : s.size - 1 - 20 = d := by rw [sz, if_pos c]; omega
    rw [this]
    rw [if_pos c] at hr
    rw [← hr]
    have e : (List.drop 20 (l19 c0 c1 c2 c3 c4 c5 c6 c7 c8 c9 c10 c11 c12 c13 (46 :: List.take d (decL U 6) ++ [90]))) = List.take d (decL U 6) ++ [90] := rfl
    rw [e, List.take_append_of_le_length (by rw [List.length_take, decL_len]; omega), List.take_take]
    congr 2; omega
  obtain ⟨hp, V, mV, v1, v2⟩ := micro_of dd z7 sz hn
  have tp : textP s := by
    refine ⟨sz20, by rw [sz]; split <;> omega, sz27, ?_, ?_, fun h => ?_⟩
    · have : s.data.toList = l19 c0 c1 c2 c3 c4 c5 c6 c7 c8 c9 c10 c11 c12 c13 (if 0 < d then 46 :: (decL U 6).take d else []) ++ [90] := by rw [hL, ← hr]; rfl
      exact last_of this
    · refine like19 (a := c0) (b := c1) (c := c2) (d := c3) (e := c4) (f := c5) (g := c6) (h := c7) (i := c8) (j := c9) (k := c10) (l := c11) (m := c12) (n := c13) ?_ i0 i1 i2 i3 i4 i5 i6 i7 i8 i9 i10 i11 i12 i13
      rw [ext_L _ _ _ (by omega), hL]
      rfl
    · have c : 0 < d := by rw [sz] at h; split at h <;> omega
      refine ⟨?_, hp c⟩
      rw [bt_L s 19 (by omega), hL, ← hr, if_pos c]
      rfl
  obtain ⟨w1, w2, w3, w4, w5, w6, w7, w8, w9⟩ := f1
  refine ⟨textV s, Or.inl ⟨⟨tp, ?_⟩, rfl, rfl⟩, ?_, ?_, sz27⟩
  · rw [n1, n2, n3, n4, n5, n6, mV, ← e1, ← e2]
    exact ⟨w1, w2, w3, w4, w5, w6, by omega, by omega, w9⟩
  · unfold textV
    rw [n1, n2, n3, n4, n5, n6, mV, ← e1, ← e2, ← f2]
    unfold timeOf
    omega
  · unfold textV
    rw [n1, n2, n3, n4, n5, n6, mV, ← e1, ← e2]
    rw [← f2]
    unfold timeOf tenI
    omega
theorem val2 {a b : UInt8} (ha : isD a) (hb : isD b) : decL (numV [a, b]).toNat 2 = [a, b] := by
  rw [numV_yes (num2 ha hb).1]
  exact dec_of (num2 ha hb).1
theorem val4 {a b c d : UInt8} (ha : isD a) (hb : isD b) (hc : isD c) (hd : isD d) : decL (numV [a, b, c, d]).toNat 4 = [a, b, c, d] := by
  rw [numV_yes (num4 ha hb hc hd).1]
  exact dec_of (num4 ha hb hc hd).1
/-- The text of the time of a text is the text. -/
theorem parse_text {s : ByteArray} {v : Int} (a : ParseIs s v 0) : TextIs v (if 0 ≤ (s.size : Int) - 21 then (s.size : Int) - 21 else 0) s 0 ∧ s.size ≤ 27 := by
  rcases a with ⟨⟨⟨t1, t2, t3, t4, t5, t6⟩, ok⟩, rfl, _⟩ | ⟨_, _, c⟩
  · refine ⟨?_, t3⟩
    obtain ⟨c0, c1, c2, c3, c4, c5, c6, c7, c8, c9, c10, c11, c12, c13, r, hL, i0, i1, i2, i3, i4, i5, i6, i7, i8, i9, i10, i11, i12, i13⟩ := split19 (by omega) t5
    have sz : s.size = 19 + r.length := by have := congrArg List.length hL; simp at this; omega
    obtain ⟨n1, n2, n3, n4, n5, n6⟩ := text_nums hL
    obtain ⟨z, k, hd, e1, e2, e3, e4, e5⟩ := from_to ok
    have b1 := bgv_mono hd.ym ym_72 hd.n1
    have b2 := bgv_mono ym_00 hd.zk (by have := hd.n2; omega)
    have lo := hd.lo
    have hi := hd.hi
    obtain ⟨r', x, hr⟩ : ∃ r' x, r = r' ++ [x] := ⟨r.dropLast, r.getLast (by intro h; rw [h] at sz; simp at sz; omega), (List.dropLast_concat_getLast _).symm⟩
    have hx : x = 90 := by
      have : s.data.toList = l19 c0 c1 c2 c3 c4 c5 c6 c7 c8 c9 c10 c11 c12 c13 r' ++ [x] := by rw [hL, hr]; rfl
      rw [last_of this] at t4
      exact u8_val (n := 90) (by omega) t4
    subst hx
    have rl : s.size = 20 + r'.length := by rw [sz, hr]; simp; omega
    have key : (if 0 < s.size - 21 then 46 :: (decL (microV s).toNat 6).take (s.size - 21) else []) = r' := by
      match r', rl with
      | [], rl => rw [if_neg (by simp at rl; omega)]
      | y :: T, rl =>
        have rl : s.size = 21 + T.length := by simp at rl; omega
        rw [if_pos (by omega)]
        obtain ⟨p1, p2⟩ := t6 (by omega)
        rw [bt_L s 19 (by omega), hL, hr] at p1
        have hy : y = 46 := u8_val (n := 46) (by omega) p1
        subst hy
        have eN : nm s 20 (s.size - 1) = numV T := by
          rw [nm_L hL _ _ (by omega), hr]
          have e : (List.drop 20 (l19 c0 c1 c2 c3 c4 c5 c6 c7 c8 c9 c10 c11 c12 c13 (46 :: T ++ [90]))) = T ++ [90] := rfl
          rw [e, List.take_append_of_le_length (by omega), List.take_of_length_le (by omega)]
        have aT : allD T := (numV_nn T).1 (by rw [← eN]; exact p2)
        have aZ : allD (T ++ List.replicate (6 - T.length) 48) := fun c hc => by
          rcases List.mem_append.1 hc with h | h
          · exact aT c h
          · rw [(List.mem_replicate.1 h).2]; exact ⟨by decide, by decide⟩
        have eM : microV s = numL (T ++ List.replicate (6 - T.length) 48) := by
          unfold microV
          rw [if_neg (by omega), eN, numV_yes aT, numL_zeros, show 27 - s.size = 6 - T.length by omega]
        have := dec_of aZ
        rw [show (T ++ List.replicate (6 - T.length) (48 : UInt8)).length = 6 by rw [List.length_append, List.length_replicate]; omega] at this
        rw [eM, this, show s.size - 21 = T.length by omega, List.take_left]
    refine Or.inr (Or.inr ⟨by split <;> omega, by split <;> omega, Int.le_trans b1 lo, Int.lt_of_lt_of_le hi b2, _, _, _, z, k, hd, ?_, rfl⟩)
    unfold textV
    rw [← e1, ← e2, ← e3, ← e4, ← e5]
    apply toL_inj
    rw [text_L, n1, n2, n3, n4, n5, n6, val4 i0 i1 i2 i3, val2 i4 i5, val2 i6 i7, val2 i8 i9, val2 i10 i11, val2 i12 i13]
    have ed : (if 0 ≤ (s.size : Int) - 21 then (s.size : Int) - 21 else 0).toNat = s.size - 21 := by split <;> omega
    rw [ed, key, hL, hr]
    rfl
  · omega
/-! ### Texts of days -/
theorem day_in_len {y m d P : Int} (hw : wholeP y m d) (p0 : 0 ≤ P) (p1 : P < dayLen y m d) : ∃ z k, DayOf (bgv (dn y m d) y m + P) (dn y m d) y m z k ∧ bgv (dn y m d + 1) z k - bgv (dn y m d) y m = dayLen y m d := by
  have wr := wholeP_range hw
  obtain ⟨z, k, z1, z2, zk⟩ := ym_ex (dn y m d + 1) (by omega) (by omega)
  have dl := day_diff hw zk
  exact ⟨z, k, ⟨wholeP_ym hw, zk, by omega, by omega, by omega, by omega, hw.1, by have := hw.2.1; omega⟩, dl⟩
/-- A part of a day, rounded up, has the digits that it was made of. -/
theorem up_frac {q L T : Nat} (hT : 0 < T) (hL : T ≤ L) (hq : q < T) : ∃ P : Nat, upI ((q : Int) * L) T = P ∧ P < L ∧ P * T / L = q ∧ (∀ P0 : Nat, q = P0 * T / L → P ≤ P0) := by
  have hL0 : 0 < L := by omega
  obtain ⟨r, hr⟩ : ∃ r, q * L % T = r := ⟨_, rfl⟩
  obtain ⟨g, hg⟩ : ∃ g, q * L / T = g := ⟨_, rfl⟩
  have dm := Nat.div_add_mod (q * L) T
  have rl := Nat.mod_lt (q * L) hT
  rw [hr, hg] at dm
  rw [hr] at rl
  have e : upI ((q : Int) * L) T = ((g + if 0 < r then 1 else 0 : Nat) : Int) := by
    unfold upI
    rw [← Int.natCast_mul, ← Int.natCast_ediv, ← Int.natCast_emod, hr, hg]
    by_cases c : 0 < r
    · rw [if_pos (by omega), if_pos c]; rfl
    · rw [if_neg (by omega), if_neg c]; rfl
  obtain ⟨P, hP⟩ : ∃ P, g + (if 0 < r then 1 else 0) = P := ⟨_, rfl⟩
  rw [hP] at e
  have lo : q * L ≤ P * T := by
    rw [← hP]
    by_cases c : 0 < r
    · rw [if_pos c, Nat.add_mul, Nat.mul_comm g T]; omega
    · rw [if_neg c, Nat.add_zero, Nat.mul_comm g T]; omega
  have hi : P * T < q * L + T := by
    rw [← hP]
    by_cases c : 0 < r
    · rw [if_pos c, Nat.add_mul, Nat.mul_comm g T]; omega
    · rw [if_neg c, Nat.add_zero, Nat.mul_comm g T]; omega
  have eq : P * T / L = q := by
    apply Nat.div_eq_of_lt_le
    · exact lo
    · rw [Nat.add_mul, Nat.one_mul]; omega
  refine ⟨P, e, ?_, eq, fun P0 h0 => ?_⟩
  · have h1 : (q + 1) * L ≤ T * L := Nat.mul_le_mul_right L hq
    rw [Nat.add_mul, Nat.one_mul] at h1
    have h2 : P * T < L * T := by rw [Nat.mul_comm L T]; omega
    exact Nat.lt_of_mul_lt_mul_right h2
  · have h1 : q * L ≤ P0 * T := by rw [h0]; exact Nat.div_mul_le_self _ _
    have h2 : P * T < P0 * T + T := by omega
    rw [← Nat.succ_mul] at h2
    have := Nat.lt_of_mul_lt_mul_right h2
    omega
theorem ten_len (y m D : Int) (d : Nat) (hd : d ≤ 9) : ∃ L : Nat, dayLen y m D = L ∧ 10 ^ d ≤ L ∧ 0 < 10 ^ d := by
  have := dayLen_bd y m D
  have h9 : ∀ r : Nat, r ≤ 9 → 10 ^ r ≤ 1000000000 := by decide
  have := h9 d hd
  exact ⟨(dayLen y m D).toNat, by omega, by omega, Nat.pow_pos (by omega)⟩
/-- The text of a day is read as a time of the same text. -/
theorem day_core2 {s : ByteArray} {y m D : Int} {q d : Nat} (hd : d ≤ 9) (hw : wholeP y m D) (hq : q < 10 ^ d) (hs : s = daytS y.toNat m.toNat D.toNat q d) :
    ∃ P : Nat, PDayIs s (bgv (dn y m D) y m + P) 0 ∧ DayIs (bgv (dn y m D) y m + P) d s 0 ∧ s.size ≤ 20 ∧ (∀ P0 : Nat, (q : Int) = P0 * 10 ^ d / dayLen y m D → P ≤ P0) ∧ (q : Int) * dayLen y m D ≤ P * 10 ^ d := by
  obtain ⟨L, eL, TL, T0⟩ := ten_len y m D d hd
  obtain ⟨P, e, pl, eq, mn⟩ := up_frac T0 TL hq
  have bo := hw
  obtain ⟨g1, g2, g3, g4, g5, g6⟩ := bo
  have ml := mo_len y m g3 g4
  obtain ⟨z, k, dy, dl⟩ := day_in_len hw (P := P) (by omega) (by rw [eL]; omega)
  have b1 := bgv_mono dy.ym ym_72 dy.n1
  have b2 := bgv_mono ym_00 dy.zk (by have := dy.n2; omega)
  have lo := dy.lo
  have hi := dy.hi
  have hL := dayt_L y.toNat m.toNat D.toNat q d
  rw [← hs] at hL
  obtain ⟨c0, c1, c2, c3, x0, i0, i1, i2, i3⟩ := dec4 y.toNat
  obtain ⟨c4, c5, x1, i4, i5⟩ := dec2 m.toNat
  obtain ⟨c6, c7, x2, i6, i7⟩ := dec2 D.toNat
  rw [x0, x1, x2] at hL
  obtain ⟨r, hr⟩ : ∃ r, (if 0 < d then (46 : UInt8) :: decL q d else []) = r := ⟨_, rfl⟩
  rw [hr] at hL
  have hL : s.data.toList = l10 c0 c1 c2 c3 c4 c5 c6 c7 r := hL
  have rl : r.length = (if 0 < d then d + 1 else 0) := by
    rw [← hr]
    by_cases c : 0 < d
    · simp [c, decL_len]
    · simp [c]
  have sz : s.size = 10 + (if 0 < d then d + 1 else 0) := by
    have := congrArg List.length hL
    simp [rl] at this
    omega
  have sz20 : s.size ≤ 20 := by rw [sz]; split <;> omega
  have sz10 : 10 ≤ s.size := by rw [sz]; omega
  obtain ⟨n1, n2, n3⟩ := day_nums hL
  rw [dec1 (by omega) x0, Int.toNat_of_nonneg (by omega)] at n1
  rw [dec1 (by omega) x1, Int.toNat_of_nonneg (by omega)] at n2
  rw [dec1 (by omega) x2, Int.toNat_of_nonneg (by omega)] at n3
  have hn : 0 < d → nm s 11 s.size = q := fun c => by
    rw [nm_L hL _ _ (Nat.le_refl _)]
    rw [if_pos c] at hr
    rw [← hr]
    have e : (List.drop 11 (l10 c0 c1 c2 c3 c4 c5 c6 c7 (46 :: decL q d))) = decL q d := rfl
    rw [e, List.take_of_length_le (by rw [decL_len, sz, if_pos c]; omega), dec_val hq]
  have dp : dayP s := by
    refine ⟨sz10, by rw [sz]; split <;> omega, sz20, ?_, fun h => ?_⟩
    · refine like10 (a := c0) (b := c1) (c := c2) (d := c3) (e := c4) (f := c5) (g := c6) (h := c7) ?_ i0 i1 i2 i3 i4 i5 i6 i7
      rw [ext_L _ _ _ (by omega), hL]
      rfl
    · have c : 0 < d := by rw [sz] at h; split at h <;> omega
      refine ⟨?_, by rw [hn c]; omega⟩
      rw [bt_L s 10 (by omega), hL, ← hr, if_pos c]
      rfl
  have pv : partV s = P := by
    unfold partV
    by_cases c : 0 < d
    · rw [if_neg (by rw [sz, if_pos c]; omega), hn c, n1, n2, n3, eL]
      have : s.size - 11 = d := by rw [sz, if_pos c]; omega
      rw [this]
      exact e
    · rw [if_pos (by rw [sz, if_neg c])]
      obtain rfl : d = 0 := by omega
      obtain rfl : q = 0 := by omega
      have : upI (((0 : Nat) : Int) * L) ((10 ^ 0 : Nat) : Int) = 0 := by simp [upI]
      rw [← e]
      exact this.symm
  refine ⟨P, Or.inl ⟨⟨dp, ?_⟩, ?_, rfl⟩, Or.inr (Or.inr ⟨by omega, by omega, Int.le_trans b1 lo, Int.lt_of_lt_of_le hi b2, _, _, _, z, k, dy, ?_, rfl⟩), sz20, fun P0 h0 => mn P0 ?_, ?_⟩
  · rw [n1, n2, n3]
    exact ⟨hw, by omega, by omega, by omega, by omega, by omega, by omega, by omega, Or.inl (by omega)⟩
  · unfold dayV
    rw [n1, n2, n3, pv]
    unfold timeOf
    omega
  · rw [dl, eL, hs]
    have : dn y m D - mo y m + 1 = D := by rw [dn_mo]; omega
    rw [this]
    congr 1
    unfold fracQ
    rw [show bgv (dn y m D) y m + (P : Int) - bgv (dn y m D) y m = P by omega]
    simp only [Int.toNat_natCast]
    exact eq.symm
  · rw [eL] at h0
    have e2 : ((10 ^ d : Nat) : Int) = 10 ^ d := by simp
    rw [← e2, ← Int.natCast_mul, ← Int.natCast_ediv] at h0
    omega
  · rw [eL]
    have e2 : ((10 ^ d : Nat) : Int) = 10 ^ d := by simp
    have e3 : q * L ≤ P * 10 ^ d := by rw [← eq]; exact Nat.div_mul_le_self _ _
    rw [← e2, ← Int.natCast_mul, ← Int.natCast_mul]
    exact Int.ofNat_le.2 e3
theorem day_core {s : ByteArray} {y m D : Int} {q d : Nat} (hd : d ≤ 9) (hw : wholeP y m D) (hq : q < 10 ^ d) (hs : s = daytS y.toNat m.toNat D.toNat q d) :
    ∃ P : Nat, PDayIs s (bgv (dn y m D) y m + P) 0 ∧ DayIs (bgv (dn y m D) y m + P) d s 0 ∧ s.size ≤ 20 ∧ (∀ P0 : Nat, (q : Int) = P0 * 10 ^ d / dayLen y m D → P ≤ P0) := by
  obtain ⟨P, a, b, c, d, _⟩ := day_core2 hd hw hq hs
  exact ⟨P, a, b, c, d⟩
theorem day_parse {t d : Int} {s : ByteArray} (a : DayIs t d s 0) : ∃ v, PDayIs s v 0 ∧ v ≤ t ∧ DayIs v d s 0 ∧ s.size ≤ 20 := by
  rcases a with ⟨_, _, c⟩ | ⟨_, _, _, _, c⟩ | ⟨d0, d6, b1, b2, n, y, m, z, k, hd, hs, _⟩
  · omega
  · omega
  obtain ⟨d, rfl⟩ : ∃ e : Nat, d = e := ⟨d.toNat, by omega⟩
  rw [Int.toNat_natCast] at *
  have hw : wholeP y m (n - mo y m + 1) := ⟨hd.y1, by have := hd.y2; omega, hd.ym.m1, hd.ym.m12, by have := hd.ym.lo; omega, by have := hd.ym.hi; omega⟩
  have e : dn y m (n - mo y m + 1) = n := by rw [dn_mo]; omega
  obtain ⟨P0, L, T, p1, p2, p3, p4, p5, p6, p7, p8, p9, p10, p11, p12⟩ := part_nat hd d (by omega)
  have eL := day_diff hw (by rw [e]; exact hd.zk)
  rw [e, p2] at eL
  rw [p8, p3] at hs
  rw [p3] at p10
  obtain ⟨P, q1, q2, q3, q4⟩ := day_core (by omega) hw p10 hs
  rw [e] at q1 q2
  refine ⟨bgv n y m + P, q1, ?_, q2, q3⟩
  have := q4 P0 (by
    rw [← eL]
    have e2 : ((10 ^ d : Nat) : Int) = 10 ^ d := by simp
    rw [← e2, ← Int.natCast_mul, ← Int.natCast_ediv])
  omega
theorem parse_day {s : ByteArray} {v : Int} (a : PDayIs s v 0) : DayIs v (if 0 ≤ (s.size : Int) - 11 then (s.size : Int) - 11 else 0) s 0 ∧ s.size ≤ 20 := by
  have a' := a
  rcases a with ⟨⟨⟨t1, t2, t3, t5, t6⟩, ok⟩, hv, _⟩ | ⟨_, _, c⟩
  · refine ⟨?_, t3⟩
    obtain ⟨c0, c1, c2, c3, c4, c5, c6, c7, r, hL, i0, i1, i2, i3, i4, i5, i6, i7⟩ := split10 (by omega) t5
    have sz : s.size = 10 + r.length := by have := congrArg List.length hL; simp at this; omega
    obtain ⟨n1, n2, n3⟩ := day_nums hL
    have hw := ok.1
    have ed : (if 0 ≤ (s.size : Int) - 11 then (s.size : Int) - 11 else 0) = ((s.size - 11 : Nat) : Int) := by split <;> omega
    have key : ∃ q, q < 10 ^ (s.size - 11) ∧ (if 0 < s.size - 11 then 46 :: decL q (s.size - 11) else []) = r := by
      match r, sz with
      | [], sz => exact ⟨0, Nat.pow_pos (by omega), by rw [if_neg (by simp at sz; omega)]⟩
      | y :: T, sz =>
        have sz : s.size = 11 + T.length := by simp at sz; omega
        obtain ⟨p1, p2⟩ := t6 (by omega)
        rw [bt_L s 10 (by omega), hL] at p1
        have hy : y = 46 := u8_val (n := 46) (by omega) p1
        subst hy
        have eN : nm s 11 s.size = numV T := by
          rw [nm_L hL _ _ (Nat.le_refl _)]
          have e : (List.drop 11 (l10 c0 c1 c2 c3 c4 c5 c6 c7 (46 :: T))) = T := rfl
          rw [e, List.take_of_length_le (by omega)]
        have aT : allD T := (numV_nn T).1 (by rw [← eN]; exact p2)
        have hb := numL_bd T T.length (Nat.le_refl _) (by rw [List.take_length]; exact aT)
        rw [List.take_length] at hb
        have := dec_of aT
        have eT : s.size - 11 = T.length := by omega
        refine ⟨(numL T).toNat, ?_, ?_⟩
        · rw [eT]
          have e : ((10 ^ T.length : Nat) : Int) = 10 ^ T.length := by simp
          omega
        · rw [if_pos (by omega), eT, this]
    obtain ⟨q, hq, hr⟩ := key
    have hs : s = daytS (nm s 0 4).toNat (nm s 5 7).toNat (nm s 8 10).toNat q (s.size - 11) := by
      apply toL_inj
      rw [dayt_L, n1, n2, n3, val4 i0 i1 i2 i3, val2 i4 i5, val2 i6 i7, hr, hL]
      rfl
    obtain ⟨P, q1, q2, _, _⟩ := day_core (by omega) hw hq hs
    obtain ⟨ev, _⟩ := a'.uniq q1
    rw [ed, ev]
    exact q2
  · omega
end At
end Go.Proofs.YtgodhaphbgllhaaGreatDoor
/-
  The walk of ParseDay of package moment.
-/
namespace Go.Proofs.YtgodhaphbgllhaaGreatDoor
namespace Ap
open Go.RowKit Lw Go.Proofs.YtgodhaphbgllhaaGreatDoor.Mp

def PDayPost (s : ByteArray) (w : World) (e : Ending) (w' : World) : Prop := ∃ t c : Int, e = .returned (.tuple #[.int .i64 t, .int .i64 c]) ∧ PDayIs s t c ∧ Below w.heap.size w w'
theorem pday_not {s : ByteArray} (h : ¬ progD s) : PDayIs s 0 12 := Or.inr ⟨fun g => h (day_prog g.1), rfl, rfl⟩
theorem time_bd {y m d : Int} (hw : wholeP y m d) : -1000000000000000 ≤ timeOf y m d 0 0 0 0 ∧ timeOf y m d 0 0 0 0 ≤ 4000000000000000 := by
  have r := wholeP_range hw
  have b := bgv_bd (dn y m d) y m (by omega) (by omega)
  unfold timeOf
  omega
set_option maxRecDepth 100000 in
set_option maxHeartbeats 8000000 in
theorem pday_any (s : ByteArray) (w : World) (hs : s.size ≤ 100) :
    Calls Tryz.prog 43 #[.string s] w (PDayPost s w) := by
  have M : maxLen = 9223372036854775807 := rfl
  have CU := cut_any s w (by omega)
  have hsz : (hdP s).size ≤ 100 := by unfold hdP; rw [size_ext s _ _ (ptS_le s)]; have := ptS_le s; omega
  have tsz : (tlP s).size ≤ 100 := by
    unfold tlP
    split
    · rw [size_ext s _ _ (by omega)]; omega
    · decide
  obtain ⟨h, eh⟩ : ∃ h, hdP s = h := ⟨_, rfl⟩
  obtain ⟨t, et⟩ : ∃ t, tlP s = t := ⟨_, rfl⟩
  have EH := Lib.hid eh
  have ET := Lib.hid et
  rw [eh] at hsz
  rw [et] at tsz
  rw [eh, et] at CU
  clear eh et
  have FH := Lib.hid (fun w' => fields_any h P10 w' (by decide) (by omega) run10)
  generalize hp : decide (ptS s < s.size) = pb at CU
  replace hp := Lib.hid hp
  go_enter Tryz.func43, Tryz.ntmps43
  go_wp2_with fail
  refine CU.mono ?_
  rintro e w1 ⟨rfl, hb1⟩
  have B1 := Lib.hid hb1
  clear hb1 CU
  go_wp2_with fail
  refine (FH.out _).mono ?_
  rintro e w2 ⟨hb2, hf⟩
  have B2 := Lib.hid (below_then B1.out hb2)
  clear hb2 FH
  rcases hf with ⟨lk, v, rfl, hown⟩ | ⟨lk, rfl⟩
  · by_cases ht : pb = true ∧ (t.size = 0 ∨ 9 < t.size)
    · obtain ⟨rfl, ht⟩ := ht
      have N := Lib.hid (pday_not (s := s) fun g => by
        have := g.2.1
        rw [ET.out] at this
        have := this (of_decide_eq_true hp.out)
        omega)
      rcases ht with ht | ht
      · have em := empty_yes ht
        clear hown lk ht
        go_wp2_with fail
        go_ret2
        exact ⟨0, 12, rfl, N.out, B2.out⟩
      · have em := empty_no (t := t) (by omega)
        have ht' : (9 : Int) < (t.size : Int) := by omega
        clear hown lk ht
        go_wp2_with fail
        go_ret2
        exact ⟨0, 12, rfl, N.out, B2.out⟩
    · have ht9 : t.size ≤ 9 ∧ (pb = true → 1 ≤ t.size) := by
        cases pb with
        | true => exact ⟨Nat.le_of_not_lt fun h => ht ⟨rfl, Or.inr h⟩, fun _ => Nat.pos_of_ne_zero fun h => ht ⟨rfl, Or.inl h⟩⟩
        | false =>
          have e : tlP s = ⟨#[]⟩ := if_neg (of_decide_eq_false hp.out)
          rw [ET.out] at e
          rw [e]
          exact ⟨by decide, fun g => by cases g⟩
      obtain ⟨ht9, ht1⟩ := ht9
      have GT : Hid (allD t.data.toList → progD s) := Lib.hid fun ad => ⟨by rw [EH.out]; exact lk, by
        rw [ET.out]
        intro hlt
        have := ht1 (hp.out.symm.trans (decide_eq_true hlt))
        omega, by rw [ET.out]; exact ad⟩
      have T9 := Lib.hid ht9
      have HO := Lib.hid (And.intro lk hown)
      have hcase : pb = false ∨ (pb = true ∧ t.toList.isEmpty = false) := by
        cases pb with
        | true => exact Or.inr ⟨rfl, empty_no (by have := ht1 rfl; omega)⟩
        | false => exact Or.inl rfl
      have i0 : 0 ≤ (t.size : Int) := by omega
      have i7 : ¬ (9 : Int) < (t.size : Int) := by omega
      clear ht ht1 ht9 lk hown hp
      obtain ⟨W, cap, hcv, hH, hBW, _⟩ := bytes_in w2 t
      have CO := contains_any t w2.heap.size cap W (by omega) hH
      have BW := Lib.hid (below_then B2.out hBW)
      have bW := Lib.hid hBW
      clear hBW hH
      by_cases ad : allD t.data.toList
      · rw [show decide (¬ allD t.data.toList) = false from decide_eq_false (not_not_intro ad)] at CO
        have g := GT.out ad
        obtain ⟨tp, hh, mv⟩ := prog_day g
        rw [EH.out] at hh
        rw [ET.out] at mv
        obtain ⟨lk, hown⟩ := HO.out
        rw [hh] at lk hown
        rw [vals10 lk (by have := tp.1; omega)] at hown
        obtain ⟨g1, cap1, rfl, hg1, hc1⟩ := row_cells hown (by simp)
        have q0 := (bW.out.cell (p := ⟨g1, 0, none⟩) hg1).trans (hc1 0 _ rfl)
        have q1 := (bW.out.cell (p := ⟨g1, 1, none⟩) hg1).trans (hc1 1 _ rfl)
        have q2 := (bW.out.cell (p := ⟨g1, 2, none⟩) hg1).trans (hc1 2 _ rfl)
        have lg1 : g1 < W.heap.size := Nat.lt_of_lt_of_le hg1 bW.out.size
        obtain ⟨n, hn, hnv⟩ := parse_u t ad T9.out
        have zs : ((⟨#[48]⟩ : ByteArray) ++ t).size = 1 + t.size := by rw [ByteArray.size_append]; rfl
        have PU := Lib.hid (fun w' => Tryz.strconv_ParseUint_10_at64_ok _ (by rw [zs]; omega) n hn w')
        have hn9 : n < 1000000000 := by
          have e : t.data.toList.take t.data.toList.length = t.data.toList := List.take_length
          have := numL_bd _ _ (Nat.le_refl _) (by rw [e]; exact ad)
          rw [e] at this
          have h9 : ∀ r : Nat, r ≤ 9 → (10 : Int) ^ r ≤ 1000000000 := by decide
          have := h9 t.data.toList.length T9.out
          omega
        rw [← hnv] at mv
        have MV0 := mv
        have TP := Lib.hid tp
        have AD := ad
        have HN := Lib.hid hnv.symm
        clear ad hown hc1 hg1 mv tp g lk hh HO GT bW hn hnv zs
        have FU := Lib.hid (fun w' => Mw.from_any (nm s 0 4) (nm s 5 7) (nm s 8 10) 0 0 0 0 w')
        obtain ⟨T, eT⟩ : ∃ T : Nat, T = 10 ^ t.size := ⟨_, rfl⟩
        have TE : Hid (∀ w', Calls Tryz.prog 78 #[.int .i64 t.size] w' fun e w'' => e = .returned (.int .u64 (T : Int)) ∧ w' = w'') := Lib.hid fun w' => by rw [eT]; exact ten_any t.size w' (by have := T9.out; omega)
        have n10 : n < T := by
          have e : t.data.toList.take t.data.toList.length = t.data.toList := List.take_length
          have := (numL_bd _ _ (Nat.le_refl _) (by rw [e]; exact AD)).2
          rw [e, HN.out] at this
          have hl : t.data.toList.length = t.size := rfl
          rw [hl] at this
          rw [eT]
          exact_mod_cast this
        have T10 : T ≤ 1000000000 := by
          have h9 : ∀ r : Nat, r ≤ 9 → 10 ^ r ≤ 1000000000 := by decide
          rw [eT]; exact h9 _ T9.out
        rw [show tenI t.size = (T : Int) by rw [eT]; rfl] at MV0
        have MV := Lib.hid MV0
        clear MV0 eT AD
        rcases (show pb = false ∨ (pb = true ∧ t.toList.isEmpty = false) from hcase) with rfl | ⟨rfl, em⟩
        all_goals
          go_wp2_with fail
          refine CO.mono ?_
          rintro e w' ⟨rfl, rfl⟩
          go_wp2_with fail
          go_region_held3 (fun w' => w'.cell? ⟨g1, 0, none⟩ = some (.int .i64 (nm s 0 4)) ∧ w'.cell? ⟨g1, 1, none⟩ = some (.int .i64 (nm s 5 7)) ∧ w'.cell? ⟨g1, 2, none⟩ = some (.int .i64 (nm s 8 10))) (go_keep) (first | (go_at_call 97; refine (FU.out _).mono ?_; rintro e w4 ⟨ti, c, rfl, hfi, hb4⟩; have m0 := (hb4.cell (p := ⟨g1, 0, none⟩) lg1).trans q0; have m1 := (hb4.cell (p := ⟨g1, 1, none⟩) lg1).trans q1; have m2 := (hb4.cell (p := ⟨g1, 2, none⟩) lg1).trans q2))
          have B4 := Lib.hid (below_then BW.out.drew hb4)
          have lg4 : g1 < w4.heap.size := Nat.lt_of_lt_of_le lg1 hb4.size
          clear q0 q1 q2 hb4
          rcases hfi with ⟨f1, f2, rfl⟩ | ⟨f1, rfl, rfl⟩
          · have hw := f1.1
            have F1 := Lib.hid f1
            have hI := wholeP_ym hw
            obtain ⟨n1, n2⟩ := wholeP_range hw
            obtain ⟨z, k, z1, z2, hzk⟩ := ym_ex (dn (nm s 0 4) (nm s 5 7) (nm s 8 10) + 1) (by omega) (by omega)
            have dd := day_diff hw hzk
            obtain ⟨D, eD⟩ : ∃ D : Nat, (D : Int) = dayLen (nm s 0 4) (nm s 5 7) (nm s 8 10) := ⟨(dayLen (nm s 0 4) (nm s 5 7) (nm s 8 10)).toNat, by have := dayLen_bd (nm s 0 4) (nm s 5 7) (nm s 8 10); omega⟩
            rw [← eD] at dd
            have dl := dayLen_bd (nm s 0 4) (nm s 5 7) (nm s 8 10)
            have D0 : D ≤ 86401000000 := by omega
            have bd := bgv_bd (dn (nm s 0 4) (nm s 5 7) (nm s 8 10)) (nm s 0 4) (nm s 5 7) (by omega) (by omega)
            have bd2 := bgv_bd (dn (nm s 0 4) (nm s 5 7) (nm s 8 10) + 1) z k (by omega) (by omega)
            have tbd := time_bd hw
            rw [← f2] at tbd
            have wD : IntKind.u64.wrap (D : Int) = (D : Int) := Dv.w_id (by omega)
            have PQ : n * D < T * 18446744073709551616 := Nat.lt_of_lt_of_le (Nat.mul_lt_mul_of_pos_right n10 (by omega)) (Nat.mul_le_mul_left _ (by omega))
            obtain ⟨H, L, hM, hD⟩ := Dv.mul_div n D T (by omega) (by omega) (by omega) PQ
            have qb : n * D / T ≤ D := by
              have : n * D ≤ T * D := Nat.mul_le_mul_right _ (Nat.le_of_lt n10)
              have h2 := Nat.div_le_div_right (c := T) this
              rw [Nat.mul_div_cancel_left _ (by omega)] at h2
              exact h2
            have FIN : Hid (∀ v : Int, v = ti + (((n * D / T : Nat) : Int) + (if 0 < n * D % T then 1 else 0)) → PDayIs s v 0) := Lib.hid fun v hv => Or.inl ⟨⟨TP.out, F1.out⟩, by
              rw [hv]
              unfold dayV
              rw [MV.out, ← eD, f2]
              unfold upI
              congr 1
              have e1 : (n : Int) * (D : Int) / (T : Int) = ((n * D / T : Nat) : Int) := by rw [← Int.natCast_mul, ← Int.natCast_ediv]
              have e2 : (n : Int) * (D : Int) % (T : Int) = ((n * D % T : Nat) : Int) := by rw [← Int.natCast_mul, ← Int.natCast_emod]
              rw [e1, e2]
              congr 1
              by_cases g : 0 < n * D % T
              · rw [if_pos g, if_pos (by omega)]
              · rw [if_neg g, if_neg (by omega)], rfl⟩
            have DY := Lib.hid (fun w' => Mw.days_any (nm s 0 4) (nm s 5 7) (nm s 8 10) w' (by have := hw.1; omega) (by have := hw.2.1; omega) hw.2.2.1 (by have := hw.2.2.2.1; omega) (by have := hw.2.2.2.2.1; omega) (by have := hw.2.2.2.2.2; have := mo_len (nm s 0 4) (nm s 5 7) hw.2.2.1 hw.2.2.2.1; omega))
            have BE := Lib.hid (fun w' => Mw.begin_any (dn (nm s 0 4) (nm s 5 7) (nm s 8 10) + 1) z k w' hzk z1 z2)
            have BG := Lib.hid (fun w' => Mw.begin_any (dn (nm s 0 4) (nm s 5 7) (nm s 8 10)) (nm s 0 4) (nm s 5 7) w' hI (by have := hw.1; omega) (by have := hw.2.1; omega))
            have HM := Lib.hid hM
            have HD := Lib.hid hD
            have P0 := Lib.hid PQ
            clear f1 f2 hw hI hzk hM hD PQ eD dl n10
            generalize n * D / T = q at *
            generalize n * D % T = r at *
            go_wp2_with fail
            refine (PU.out _).mono ?_
            rintro e w5 ⟨rfl, hw5⟩
            have hb5 : Below w4.heap.size w4 w5 := by
              rcases hw5 with h | h
              · rw [h]; exact Below.refl _ _
              · rw [h]; exact Lib.bytesWorld_below _ _ _
            have B5 := Lib.hid (below_then B4.out hb5)
            have p0 := (hb5.cell (p := ⟨g1, 0, none⟩) lg4).trans m0
            have p1 := (hb5.cell (p := ⟨g1, 1, none⟩) lg4).trans m1
            have p2 := (hb5.cell (p := ⟨g1, 2, none⟩) lg4).trans m2
            clear m0 m1 m2 hb5 hw5
            go_wp2_with fail
            go_region_held3 (fun w' => w'.cell? ⟨g1, 0, none⟩ = some (.int .i64 (nm s 0 4)) ∧ w'.cell? ⟨g1, 1, none⟩ = some (.int .i64 (nm s 5 7)) ∧ w'.cell? ⟨g1, 2, none⟩ = some (.int .i64 (nm s 8 10))) (go_keep) (first | (go_at_call 98; refine (DY.out _).mono ?_; rintro e w' ⟨rfl, rfl⟩))
            generalize dn (nm s 0 4) (nm s 5 7) (nm s 8 10) = nn at *
            clear p0 p1 p2 DY PU FU
            go_wp2_with fail
            refine (BE.out _).mono ?_
            rintro e w6 ⟨rfl, hb6⟩
            have B6 := Lib.hid (below_then B5.out.drew hb6)
            clear hb6 BE
            go_wp2_with fail
            refine (BG.out _).mono ?_
            rintro e w7 ⟨rfl, hb7⟩
            have B7 := Lib.hid (below_then B6.out hb7)
            clear hb7 BG
            generalize bgv (nn + 1) z k = b1 at *
            generalize bgv nn (nm s 0 4) (nm s 5 7) = b0 at *
            go_wp2_with fail
            refine (HM.out _).mono ?_
            rintro e w' ⟨rfl, rfl⟩
            go_wp2_with fail
            refine (TE.out _).mono ?_
            rintro e w' ⟨rfl, rfl⟩
            go_wp2_with fail
            refine (HD.out _).mono ?_
            rintro e w8 ⟨rfl, hb8⟩
            have B8 := Lib.hid (below_then B7.out hb8)
            clear hb8
            by_cases hr : 0 < r
            · have F := Lib.hid (FIN.out (ti + ((q : Int) + 1)) (by rw [if_pos hr]))
              have hr' : (0 : Int) < (r : Int) := by omega
              go_wp2_with fail
              go_ret2
              exact ⟨_, 0, rfl, F.out, B8.out⟩
            · have F := Lib.hid (FIN.out (ti + (q : Int)) (by rw [if_neg hr, Int.add_zero]))
              have hr' : ¬ (0 : Int) < (r : Int) := by omega
              go_wp2_with fail
              go_ret2
              exact ⟨_, 0, rfl, F.out, B8.out⟩
          · have N := Lib.hid (show PDayIs s 0 12 from Or.inr ⟨fun g => f1 (g.2), rfl, rfl⟩)
            go_wp2_with fail
            go_ret2
            exact ⟨0, 12, rfl, N.out, B4.out⟩
      · rw [show decide (¬ allD t.data.toList) = true from decide_eq_true ad] at CO
        have N := Lib.hid (pday_not (s := s) fun g => ad (by have := g.2.2; rwa [ET.out] at this))
        clear ad GT HO
        rcases hcase with rfl | ⟨rfl, em⟩
        all_goals
          go_wp2_with fail
          refine CO.mono ?_
          rintro e w' ⟨rfl, rfl⟩
          go_wp2_with fail
          go_ret2
          exact ⟨0, 12, rfl, N.out, BW.out⟩
  · have N := Lib.hid (pday_not (s := s) fun g => lk (by have := g.1; rwa [EH.out] at this))
    go_wp2_with fail
    go_ret2
    exact ⟨0, 12, rfl, N.out, B2.out⟩
end Ap
end Go.Proofs.YtgodhaphbgllhaaGreatDoor
/-
  Plain facts of MomentNames: what the calls return at its constants; no walk here.
-/
namespace Go.Proofs.YtgodhaphbgllhaaGreatDoor
namespace At
open Go.RowKit Lw Ap Go.Proofs.YtgodhaphbgllhaaGreatDoor.Mp Go.Proofs.YtgodhaphbgllhaaGreatDoor.Mw

instance (y m d h i s u : Int) : Decidable (fromOk y m d h i s u) := by unfold fromOk wholeP leapday; infer_instance
instance (s : ByteArray) : Decidable (textP s) := by unfold textP; infer_instance
instance (s : ByteArray) : Decidable (okText s) := by unfold okText; infer_instance
instance (s : ByteArray) : Decidable (dayP s) := by unfold dayP; infer_instance
instance (s : ByteArray) : Decidable (okDay s) := by unfold okDay; infer_instance
theorem from_k {y m d h i s u : Int} (t : Int) (a : fromOk y m d h i s u) (b : timeOf y m d h i s u = t) : FromIs y m d h i s u t 0 := Or.inl ⟨a, b.symm, rfl⟩
theorem from_n {y m d h i s u : Int} (a : ¬ fromOk y m d h i s u) : FromIs y m d h i s u 0 2 := Or.inr ⟨a, rfl, rfl⟩
theorem to_k {y m d h i s u t : Int} (a : fromOk y m d h i s u) (b : timeOf y m d h i s u = t) : ToIs t y m d h i s u 0 := (from_k t a b).back
theorem to_n {t : Int} (h : t < bgv (-10227) 1972 1 ∨ bgv 36525 2100 1 ≤ t) : ToIs t 0 0 0 0 0 0 0 16 := Or.inl ⟨h, rfl, rfl, rfl, rfl, rfl, rfl, rfl, rfl⟩
theorem text_k {y m d h i s u t : Int} {dd : Nat} {x : ByteArray} (hd : dd ≤ 6) (a : fromOk y m d h i s u) (b : timeOf y m d h i s u = t)
    (e : x = textS y.toNat m.toNat d.toNat h.toNat i.toNat s.toNat u.toNat dd) : TextIs t dd x 0 := by
  subst b
  obtain ⟨z, k, hd, e1, e2, e3, e4, e5⟩ := from_to a
  have b1 := bgv_mono hd.ym ym_72 hd.n1
  have b2 := bgv_mono ym_00 hd.zk (by have := hd.n2; omega)
  refine Or.inr (Or.inr ⟨by omega, by omega, Int.le_trans b1 hd.lo, Int.lt_of_lt_of_le hd.hi b2, _, _, _, z, k, hd, ?_, rfl⟩)
  rw [← e1, ← e2, ← e3, ← e4, ← e5]
  exact e
theorem day_k {y m d h i s u t : Int} {dd : Nat} {x : ByteArray} (hd : dd ≤ 9) (a : fromOk y m d h i s u) (b : timeOf y m d h i s u = t)
    (e : x = daytS y.toNat m.toNat d.toNat (fracQ (t - bgv (dn y m d) y m) (dayLen y m d) dd) dd) : DayIs t dd x 0 := by
  subst b
  obtain ⟨z, k, hd, e1, e2, e3, e4, e5⟩ := from_to a
  have b1 := bgv_mono hd.ym ym_72 hd.n1
  have b2 := bgv_mono ym_00 hd.zk (by have := hd.n2; omega)
  refine Or.inr (Or.inr ⟨by omega, by omega, Int.le_trans b1 hd.lo, Int.lt_of_lt_of_le hd.hi b2, _, _, _, z, k, hd, ?_, rfl⟩)
  rw [← e1, day_diff a.1 hd.zk]
  exact e
theorem parse_k {s : ByteArray} {t : Int} (a : okText s) (b : textV s = t) : ParseIs s t 0 := Or.inl ⟨a, b.symm, rfl⟩
theorem parse_n {s : ByteArray} (a : ¬ okText s) : ParseIs s 0 12 := Or.inr ⟨a, rfl, rfl⟩
theorem pday_k {s : ByteArray} {t : Int} (a : okDay s) (b : dayV s = t) : PDayIs s t 0 := Or.inl ⟨a, b.symm, rfl⟩
theorem pday_n {s : ByteArray} (a : ¬ okDay s) : PDayIs s 0 12 := Or.inr ⟨a, rfl, rfl⟩
/-! ### The constants of alive -/
theorem k_to0 : ToIs 0 2000 1 1 11 58 55 816000 0 := to_k (by decide +kernel) (by decide +kernel)
theorem k_from : FromIs 2016 12 31 23 59 60 0 536500868184000 0 := from_k _ (by decide +kernel) (by decide +kernel)
/-- 2017-01-01T00:00:00Z -/
abbrev sA : ByteArray := ⟨#[50, 48, 49, 55, 45, 48, 49, 45, 48, 49, 84, 48, 48, 58, 48, 48, 58, 48, 48, 90]⟩
theorem k_parse : ParseIs sA 536500869184000 0 := parse_k (by decide +kernel) (by decide +kernel)
/-- 2000 01 01.499 -/
abbrev sB : ByteArray := ⟨#[50, 48, 48, 48, 32, 48, 49, 32, 48, 49, 46, 52, 57, 57]⟩
theorem k_day : DayIs 0 3 sB 0 := day_k (dd := 3) (by decide) (y := 2000) (m := 1) (d := 1) (h := 11) (i := 58) (s := 55) (u := 816000) (by decide +kernel) (by decide +kernel) (by decide +kernel)
end At
end Go.Proofs.YtgodhaphbgllhaaGreatDoor
/-
  Reading digits: number of the reference, value of package angle.
-/
namespace Go.Proofs.YtgodhaphbgllhaaGreatDoor
namespace Gp
open Go.RowKit Lw

def numL (l : List UInt8) : Int := l.foldl (fun n c => 10 * n + ((c.toNat : Int) - 48)) 0
def allD (l : List UInt8) : Prop := ∀ c ∈ l, 48 ≤ (c.toNat : Int) ∧ (c.toNat : Int) ≤ 57
instance (l : List UInt8) : Decidable (allD l) := by unfold allD; infer_instance
/-- The number that a string of digits is, or -1. -/
def numV (l : List UInt8) : Int := if allD l then numL l else -1
theorem numL_snoc (l : List UInt8) (c : UInt8) : numL (l ++ [c]) = 10 * numL l + ((c.toNat : Int) - 48) := by simp [numL]
theorem allD_snoc {l : List UInt8} {c : UInt8} (h : allD l) (h1 : 48 ≤ (c.toNat : Int)) (h2 : (c.toNat : Int) ≤ 57) : allD (l ++ [c]) := fun x hx => by
  rcases List.mem_append.1 hx with g | g
  · exact h x g
  · have := List.mem_singleton.1 g; subst this; exact ⟨h1, h2⟩
theorem take_snoc (s : ByteArray) (k : Nat) (h : k < s.size) : s.data.toList.take (k + 1) = s.data.toList.take k ++ [s[k]] := by
  rw [List.take_succ_eq_append_getElem (by simpa using h)]; rfl
theorem take_all (s : ByteArray) (k : Nat) (h : ¬ k < s.size) : s.data.toList.take k = s.data.toList := List.take_of_length_le (by simp; omega)
theorem numL_bd (l : List UInt8) : ∀ k, k ≤ l.length → allD (l.take k) → 0 ≤ numL (l.take k) ∧ numL (l.take k) < 10 ^ k
  | 0, _, _ => by simp [numL]
  | k + 1, hk, h => by
    have e : l.take (k + 1) = l.take k ++ [l[k]] := List.take_succ_eq_append_getElem (by omega)
    rw [e] at h ⊢
    have ih := numL_bd l k (by omega) (fun x hx => h x (List.mem_append_left _ hx))
    have hc := h l[k] (List.mem_append_right _ (List.mem_singleton.2 rfl))
    rw [numL_snoc, Int.pow_succ]
    omega
theorem pow_17 : ∀ k : Nat, k < 18 → (10 : Int) ^ k ≤ 100000000000000000 := by decide
theorem numL_17 (s : ByteArray) (k : Nat) (hk : k ≤ s.size) (h18 : k < 18) (h : allD (s.data.toList.take k)) : 0 ≤ numL (s.data.toList.take k) ∧ numL (s.data.toList.take k) < 100000000000000000 := by
  have := numL_bd s.data.toList k (by simpa using hk) h
  have := pow_17 k h18
  omega
theorem numV_not (s : ByteArray) (k : Nat) (hk : k < s.size) (h : ¬ (48 ≤ (s[k].toNat : Int) ∧ (s[k].toNat : Int) ≤ 57)) : numV s.data.toList = -1 := by
  unfold numV
  rw [if_neg]
  intro g
  exact h (g s[k] (by
    have : s[k] = s.data.toList[k]'(by simpa using hk) := rfl
    rw [this]; exact List.getElem_mem _))
theorem numV_all (s : ByteArray) (k : Nat) (hk : ¬ k < s.size) (h : allD (s.data.toList.take k)) : numL (s.data.toList.take k) = numV s.data.toList := by
  rw [take_all s k hk] at h ⊢
  unfold numV
  rw [if_pos h]
theorem byte_bd (b : UInt8) : 0 ≤ (b.toNat : Int) ∧ (b.toNat : Int) < 256 := by have := b.toNat_lt; omega
theorem ret_i {a b : Int} (h : a = b) : Ending.returned (.int .i64 a) = .returned (.int .i64 b) := by rw [h]
theorem val_i {a b : Int} (h : a = b) : Value.int .i64 a = .int .i64 b := by rw [h]

set_option maxHeartbeats 1000000 in
theorem number_any (s : ByteArray) (w : World) (hs : s.size ≤ 18) :
    Calls Tryz.prog 154 #[.string s] w fun e w' => e = .returned (.int .i64 (numV s.data.toList)) ∧ w = w' := by
  go_enter Tryz.func154, Tryz.ntmps154
  go_wp2
  go_loop [3, 4] (fun n i => ∃ k : Nat, k ≤ s.size ∧ i = .int .i64 k ∧ n = .int .i64 (numL (s.data.toList.take k)) ∧ Hid (allD (s.data.toList.take k))) (fun _ i => s.size - (intOf i).toNat)
  case atStart => exact ⟨0, Nat.zero_le _, rfl, rfl, Lib.hid (by intro c hc; simp at hc)⟩
  case round =>
    obtain ⟨k, hk, rfl, rfl, D⟩ := hrel
    by_cases hlt : k < s.size
    · have nb := numL_17 s k hk (by omega) D.out
      have bb := byte_bd s[k]
      by_cases d : 48 ≤ (s[k].toNat : Int) ∧ (s[k].toNat : Int) ≤ 57
      · have HS := Lib.hid (show numL (s.data.toList.take (k + 1)) = 10 * numL (s.data.toList.take k) + ((s[k].toNat : Int) - 48) by rw [take_snoc s k hlt, numL_snoc])
        have D2 := Lib.hid (show allD (s.data.toList.take (k + 1)) by rw [take_snoc s k hlt]; exact allD_snoc D.out d.1 d.2)
        obtain ⟨d1, d2⟩ := d
        go_wp2
        go_round
        case rel => exact ⟨k + 1, by omega, by go_num, val_i HS.out.symm, D2⟩
        case measure => simp [intOf]; omega
      · have N := Lib.hid (numV_not s k hlt d)
        have d' : (s[k].toNat : Int) < 48 ∨ 57 < (s[k].toNat : Int) := by omega
        clear d
        go_wp2
        all_goals first | (exfalso; omega) | (go_ret; exact ⟨ret_i N.out.symm, rfl⟩)
    · have N := Lib.hid (numV_all s k hlt D.out)
      go_wp2
      go_ret
      exact ⟨ret_i N.out, rfl⟩

theorem rune_not {s : ByteArray} {k : Nat} (hlt : k < s.size) : (Utf8.decode s k = ((s[k]'hlt).toNat, 1)) ∨ (¬ (48 ≤ (s[k].toNat : Int) ∧ (s[k].toNat : Int) ≤ 57) ∧ 128 ≤ ((Utf8.decode s k).1 : Int) ∧ ((Utf8.decode s k).1 : Int) ≤ 2147483647) := by
  by_cases ha : (s[k]'hlt).toNat < 128
  · exact Or.inl (decode_ascii s k hlt ha)
  · have := (decode_high s k hlt (by omega)).1
    have := decode_le s k
    exact Or.inr ⟨by omega, by omega, by omega⟩

set_option maxHeartbeats 1000000 in
theorem value_any (s : ByteArray) (w : World) (hs : s.size ≤ 18) :
    Calls Tryz.prog 149 #[.string s] w fun e w' => e = .returned (.int .i64 (numV s.data.toList)) ∧ ∃ k, w' = w.iter s k := by
  go_enter Tryz.func149, Tryz.ntmps149
  go_wp2
  go_loopw [3] (fun n w' => ∃ k : Nat, k ≤ s.size ∧ w' = w.iter s k ∧ n = .int .i64 (numL (s.data.toList.take k)) ∧ Hid (allD (s.data.toList.take k))) (fun _ w' => s.size - w'.iterPos w.heap.size)
  case atStart => exact ⟨0, Nat.zero_le _, rfl, rfl, Lib.hid (by intro c hc; simp at hc)⟩
  case round =>
    obtain ⟨k, hk, rfl, rfl, D⟩ := hrel
    by_cases hlt : k < s.size
    · have hnx : ∀ ty, (Instr.next (.pointer (some ⟨w.heap.size, 0, none⟩)) true ty).run Tryz.prog (w.iter s k) = _ := fun ty => run_next_any w s k ty hlt
      have nb := numL_17 s k hk (by omega) D.out
      have bb := byte_bd s[k]
      rcases rune_not hlt with hr | ⟨d, r1, r2⟩
      · rw [hr] at hnx
        by_cases d : 48 ≤ (s[k].toNat : Int) ∧ (s[k].toNat : Int) ≤ 57
        · have HS := Lib.hid (show numL (s.data.toList.take (k + 1)) = 10 * numL (s.data.toList.take k) + ((s[k].toNat : Int) - 48) by rw [take_snoc s k hlt, numL_snoc])
          have D2 := Lib.hid (show allD (s.data.toList.take (k + 1)) by rw [take_snoc s k hlt]; exact allD_snoc D.out d.1 d.2)
          obtain ⟨d1, d2⟩ := d
          go_wp2
          go_roundw
          case rel => exact ⟨k + 1, by omega, rfl, val_i HS.out.symm, D2⟩
          case measure => simp; omega
        · have N := Lib.hid (numV_not s k hlt d)
          have d' : (s[k].toNat : Int) < 48 ∨ 57 < (s[k].toNat : Int) := by omega
          clear d
          go_wp2
          all_goals first | (exfalso; omega) | (go_ret; exact ⟨ret_i N.out.symm, _, rfl⟩)
      · have N := Lib.hid (numV_not s k hlt d)
        clear d
        generalize (Utf8.decode s k).1 = r at *
        go_wp2
        all_goals first | (exfalso; omega) | (go_ret; exact ⟨ret_i N.out.symm, _, rfl⟩)
    · have hnx : ∀ ty, (Instr.next (.pointer (some ⟨w.heap.size, 0, none⟩)) true ty).run Tryz.prog (w.iter s k) = _ := fun ty => run_next_end w s k ty hlt
      have N := Lib.hid (numV_all s k hlt D.out)
      go_wp2
      go_ret
      exact ⟨ret_i N.out, _, rfl⟩
end Gp
end Go.Proofs.YtgodhaphbgllhaaGreatDoor
/-
  Powers of ten, rounding, the common divisor: package angle and the reference.
-/
namespace Go.Proofs.YtgodhaphbgllhaaGreatDoor
namespace Gp
open Go.RowKit Lw

/-- A power of ten. -/
def tenI (k : Nat) : Int := (10 ^ k : Nat)
theorem tenI_s (k : Nat) : tenI (k + 1) = tenI k * 10 := by unfold tenI; rw [Nat.pow_succ]; omega
theorem tenI_bd : ∀ k : Nat, k ≤ 18 → 1 ≤ tenI k ∧ tenI k ≤ 1000000000000000000 := by decide
theorem tenI_17 : ∀ k : Nat, k < 18 → 1 ≤ tenI k ∧ tenI k ≤ 100000000000000000 := by decide

set_option maxHeartbeats 400000 in
theorem ten_any (n : Nat) (w : World) (hn : n ≤ 18) :
    Calls Tryz.prog 81 #[.int .i64 n] w fun e w' => e = .returned (.int .i64 (tenI n)) ∧ w = w' := by
  go_enter Tryz.func81, Tryz.ntmps81
  go_wp2
  go_loop [3, 5] (fun p i => ∃ k : Nat, k ≤ n ∧ i = .int .i64 k ∧ p = .int .i64 (tenI k)) (fun _ i => n - (intOf i).toNat)
  case atStart => exact ⟨0, Nat.zero_le _, rfl, rfl⟩
  case round =>
    obtain ⟨k, hk, rfl, rfl⟩ := hrel
    by_cases hlt : k < n
    · have nb := tenI_17 k (by omega)
      have HS := Lib.hid (tenI_s k)
      go_wp2
      go_round
      case rel => exact ⟨k + 1, by omega, by go_num, val_i HS.out.symm⟩
      case measure => simp [intOf]; omega
    · obtain rfl : k = n := by omega
      go_wp2
      go_ret
      exact ⟨rfl, rfl⟩

set_option maxHeartbeats 400000 in
theorem rten_any (n : Nat) (w : World) (hn : n ≤ 18) :
    Calls Tryz.prog 134 #[.int .i64 n] w fun e w' => e = .returned (.int .i64 (tenI n)) ∧ w = w' := by
  go_enter Tryz.func134, Tryz.ntmps134
  go_wp2
  go_loop [3, 4] (fun p i => ∃ k : Nat, k ≤ n ∧ i = .int .i64 k ∧ p = .int .i64 (tenI k)) (fun _ i => n - (intOf i).toNat)
  case atStart => exact ⟨0, Nat.zero_le _, rfl, rfl⟩
  case round =>
    obtain ⟨k, hk, rfl, rfl⟩ := hrel
    by_cases hlt : k < n
    · have nb := tenI_17 k (by omega)
      have HS := Lib.hid (show tenI (k + 1) = 10 * tenI k by rw [tenI_s]; omega)
      go_wp2
      go_round
      case rel => exact ⟨k + 1, by omega, by go_num, val_i HS.out.symm⟩
      case measure => simp [intOf]; omega
    · obtain rfl : k = n := by omega
      go_wp2
      go_ret
      exact ⟨rfl, rfl⟩

/-- Half to even. -/
def rndI (a u : Int) : Int := a / u + (if u < 2 * (a % u) ∨ (2 * (a % u) = u ∧ (a / u) % 2 = 1) then 1 else 0)
end Gp
end Go.Proofs.YtgodhaphbgllhaaGreatDoor
/-
  Rounding: package angle and the reference.
-/
namespace Go.Proofs.YtgodhaphbgllhaaGreatDoor
namespace Gp
open Go.RowKit Lw

theorem and_one (q : Nat) (hq : q ≤ 1000000000000000000) : bits .and .i64 (q : Int) 1 = (q : Int) % 2 := by
  show IntKind.i64.wrap ((BitVec.ofInt 64 (q : Int) &&& BitVec.ofInt 64 1).toNat : Int) = _
  have e : (BitVec.ofInt 64 (q : Int)).toNat = q := ofInt_u64 q (by omega)
  have e1 : (BitVec.ofInt 64 1).toNat = 1 := by decide
  rw [BitVec.toNat_and, e, e1, nat_mask1, IntWalk.i64_in _ (by omega)]
  omega
set_option maxRecDepth 100000 in
set_option maxHeartbeats 1000000 in
theorem round_any (a u : Nat) (w : World) (hu : 0 < u) (ha : a ≤ 1000000000000000000) (hu2 : u ≤ 1000000000000000000) :
    Calls Tryz.prog 82 #[.int .i64 a, .int .i64 u] w fun e w' => e = .returned (.int .i64 (rndI a u)) ∧ ∃ m, w' = w.drewN m := by
  have t1 : (a : Int).tdiv (u : Int) = ((a / u : Nat) : Int) := rfl
  have t2 : (a : Int).tmod (u : Int) = ((a % u : Nat) : Int) := rfl
  have m1 : a % u < u := Nat.mod_lt _ hu
  have m2 : a / u ≤ a := Nat.div_le_self _ _
  have hu0 : (u : Int) ≠ 0 := by omega
  have R := Lib.hid (show rndI a u = ((a / u : Nat) : Int) + (if (u : Int) < 2 * ((a % u : Nat) : Int) ∨ (2 * ((a % u : Nat) : Int) = u ∧ ((a / u : Nat) : Int) % 2 = 1) then 1 else 0) from rfl)
  generalize hq : a / u = q at *
  generalize hr : a % u = r at *
  clear hq hr
  have t3 := and_one q (by omega)
  by_cases h2 : 2 * r = u
  · have hs : (u : Int) - (r : Int) = r := by omega
    go_enter Tryz.func82, Tryz.ntmps82
    go_wp2
    go_quiet (fail)
    go_wp2
    all_goals
      go_ret
      refine ⟨ret_i ?_, _, rfl⟩
      rw [R.out]
      simp only [beq_iff_eq, beq_eq_false_iff_ne, ne_eq] at *
      split <;> omega
  · have hs : ((r : Int) == (u : Int) - (r : Int)) = false := beq_eq_false_iff_ne.2 (by omega)
    go_enter Tryz.func82, Tryz.ntmps82
    go_wp2
    go_quiet (fail)
    go_wp2
    all_goals
      go_ret
      refine ⟨ret_i ?_, _, rfl⟩
      rw [R.out]
      simp only [beq_iff_eq, beq_eq_false_iff_ne, ne_eq] at *
      split <;> omega

set_option maxHeartbeats 1000000 in
theorem rrounded_any (a u : Nat) (w : World) (hu : 0 < u) (ha : a ≤ 1000000000000000000) (hu2 : u ≤ 1000000000000000000) :
    Calls Tryz.prog 135 #[.int .i64 a, .int .i64 u] w fun e w' => e = .returned (.int .i64 (rndI a u)) ∧ ∃ m, w' = w.drewN m := by
  have t1 : (a : Int).tdiv (u : Int) = ((a / u : Nat) : Int) := rfl
  have t2 : (a : Int).tmod (u : Int) = ((a % u : Nat) : Int) := rfl
  have m1 : a % u < u := Nat.mod_lt _ hu
  have m2 : a / u ≤ a := Nat.div_le_self _ _
  have hu0 : (u : Int) ≠ 0 := by omega
  have R := Lib.hid (show rndI a u = ((a / u : Nat) : Int) + (if (u : Int) < 2 * ((a % u : Nat) : Int) ∨ (2 * ((a % u : Nat) : Int) = u ∧ ((a / u : Nat) : Int) % 2 = 1) then 1 else 0) from rfl)
  generalize hq : a / u = q at *
  generalize hr : a % u = r at *
  clear hq hr
  have t3 : (q : Int).tmod 2 = (q : Int) % 2 := Int.tmod_eq_emod_of_nonneg (by omega)
  go_enter Tryz.func135, Tryz.ntmps135
  go_wp2
  go_quiet (fail)
  go_wp2
  all_goals
    go_ret
    refine ⟨ret_i ?_, _, rfl⟩
    rw [R.out]
    simp only [beq_iff_eq, beq_eq_false_iff_ne, ne_eq] at *
    split <;> omega
end Gp
end Go.Proofs.YtgodhaphbgllhaaGreatDoor
/-
  The reference's common divisor with 3,600,000,000.
-/
namespace Go.Proofs.YtgodhaphbgllhaaGreatDoor
namespace Gp
open Go.RowKit Lw

end Gp
end Go.Proofs.YtgodhaphbgllhaaGreatDoor
/-
  The parts of a text of hours or degrees: the reference.
-/
namespace Go.Proofs.YtgodhaphbgllhaaGreatDoor
namespace Gp
open Go.RowKit Lw

/-- The number of two digits at a place, or -1. -/
def two (s : ByteArray) (i : Nat) : Int := numV (s.extract i (i + 2)).data.toList
theorem at_of (s : ByteArray) (i : Nat) (h : i < s.size) : ((s.get! i).toNat : Int) = (s[i].toNat : Int) := by simp [ByteArray.get!, getElem!_pos, h]; rfl
/-- Where the spaces and the point stand. -/
def shapeP (s : ByteArray) : Prop := 8 ≤ s.size ∧ ((s.get! 2).toNat : Int) = 32 ∧ ((s.get! 5).toNat : Int) = 32 ∧ s.size ≠ 9 ∧ s.size ≤ 15 ∧ (8 < s.size → ((s.get! 8).toNat : Int) = 46)
def restOf (s : ByteArray) : ByteArray := if s.size = 8 then ByteArray.empty else s.extract 9 s.size
def validP (s : ByteArray) : Prop := shapeP s ∧ 0 ≤ two s 0 ∧ (0 ≤ two s 3 ∧ two s 3 ≤ 59) ∧ (0 ≤ two s 6 ∧ two s 6 ≤ 59) ∧ 0 ≤ numV (restOf s).data.toList
/-- What parts returns: where the text is none, its numbers are anything. -/
def PartsIs (s : ByteArray) (a b c : Int) (r : ByteArray) (ok : Bool) : Prop := (ok = true ∧ validP s ∧ a = two s 0 ∧ b = two s 3 ∧ c = two s 6 ∧ r = restOf s) ∨ (ok = false ∧ ¬ validP s)
theorem info42 : (Tryz.prog.info? 68).map (·.size) = some 3 := by kernel_rfl
abbrev ar3 (a b c : Int) : List Value := [.int .i64 a, .int .i64 b, .int .i64 c]
def PartsPost (s : ByteArray) (w : World) (e : Ending) (w' : World) : Prop := ∃ (a b c : Int) (r : ByteArray) (ok : Bool), e = .returned (.tuple #[.agg #[.int .i64 a, .int .i64 b, .int .i64 c], .string r, .bool ok]) ∧ PartsIs s a b c r ok ∧ Below w.heap.size w w'

set_option maxHeartbeats 4000000 in
theorem parts_shape (s : ByteArray) (w : World) (hs : s.size ≤ maxLen) (hn : ¬ shapeP s) :
    Calls Tryz.prog 153 #[.string s] w (PartsPost s w) := by
  unfold maxLen at hs
  have N := Lib.hid hn
  clear hn
  have R0 : ((w.alloc (.cells #[.int .i64 0, .int .i64 0, .int .i64 0] 68)).alloc (.cells #[.int .i64 0, .int .i64 0, .int .i64 0] 68)).rangeAt w.heap.size 0 (ar3 0 0 0) :=
    rangeAt_below (rangeAt_new w (ar3 0 0 0) 68) ((Below.refl (w.alloc (.cells #[.int .i64 0, .int .i64 0, .int .i64 0] 68)).heap.size _).alloc (Nat.le_refl _) _) (by simp)
  have hB : Below w.heap.size w ((w.alloc (.cells #[.int .i64 0, .int .i64 0, .int .i64 0] 68)).alloc (.cells #[.int .i64 0, .int .i64 0, .int .i64 0] 68)) := ((Below.refl _ _).alloc (Nat.le_refl _) _).alloc (by simp) _
  go_enter Tryz.func153, Tryz.ntmps153
  by_cases h8 : s.size < 8
  · have n8 : (s.size : Int) < 8 := by omega
    go_wp2
    exact bodyPost_ret (ret_cell_tmp2 Tryz.results153 _ _ w.heap.size (ar3 0 0 0) _ rfl R0 Tryz.underlying68 rfl info42) rfl ⟨0, 0, 0, _, false, rfl, Or.inr ⟨rfl, fun g => N.out g.1⟩, hB⟩
  · have n8 : ¬ (s.size : Int) < 8 := by omega
    have i2 : (2 : Nat) < s.size := by omega
    have i5 : (5 : Nat) < s.size := by omega
    have p2 := at_of s 2 i2
    have p5 := at_of s 5 i5
    by_cases h9 : 8 < s.size
    · have p8 := at_of s 8 h9
      have n9 : (8 : Int) < s.size := by omega
      go_wp2
      all_goals first
        | exact bodyPost_ret (ret_cell_tmp2 Tryz.results153 _ _ w.heap.size (ar3 0 0 0) _ rfl R0 Tryz.underlying68 rfl info42) rfl ⟨0, 0, 0, _, false, rfl, Or.inr ⟨rfl, fun g => N.out g.1⟩, hB⟩
        | (exfalso; simp only [beq_iff_eq, beq_eq_false_iff_ne, bne_iff_ne, bne_eq_false_iff_eq, ne_eq] at *; exact N.out ⟨by omega, by omega, by omega, by omega, by omega, fun _ => by omega⟩)
    · have n9 : ¬ (8 : Int) < s.size := by omega
      go_wp2
      all_goals first
        | exact bodyPost_ret (ret_cell_tmp2 Tryz.results153 _ _ w.heap.size (ar3 0 0 0) _ rfl R0 Tryz.underlying68 rfl info42) rfl ⟨0, 0, 0, _, false, rfl, Or.inr ⟨rfl, fun g => N.out g.1⟩, hB⟩
        | (exfalso; simp only [beq_iff_eq, beq_eq_false_iff_ne, bne_iff_ne, bne_eq_false_iff_eq, ne_eq] at *; exact N.out ⟨by omega, by omega, by omega, by omega, by omega, fun g => absurd g h9⟩)
end Gp
end Go.Proofs.YtgodhaphbgllhaaGreatDoor
/-
  The parts of a text of hours or degrees: the reference, where spaces and point stand right.
-/
namespace Go.Proofs.YtgodhaphbgllhaaGreatDoor
namespace Gp
open Go.RowKit Lw

theorem two_eq (s : ByteArray) (i : Nat) : two s i = numV (List.take 2 (List.drop i s.data.toList)) := by
  unfold two; simp
theorem fr_at {w : World} {b n j : Nat} (h : w.there b 0 n) (hj : j < n) : w.frozen? ⟨b, 0 + j, none⟩ = false := (h j hj).2
theorem there3_set {w : World} {b n : Nat} (h : w.there b 0 n) (a : Addr) (v : Value) : (w.setCell a v).there b 0 n := fun j hj => by
  refine ⟨World.isSome_setCells a.block [v] a.off w _ (h j hj).1 |> fun x => ?_, by rw [World.frozen?_setCell]; exact (h j hj).2⟩
  obtain ⟨u, hu⟩ := Option.isSome_iff_exists.1 (h j hj).1
  obtain ⟨v', hv'⟩ := cell?_setCell_some (w := w) (p := a) (x := v) (q := ⟨b, 0 + j, none⟩) (v := u) hu
  rw [hv']; rfl

theorem cell_at {w : World} {b n j : Nat} (h : w.there b 0 n) (hj : j < n) : ∃ v, w.cell? ⟨b, 0 + j, none⟩ = some v := Option.isSome_iff_exists.1 (h j hj).1
/-- What lies at an address. -/
def cellOf (w : World) (p : Addr) : Value := (w.cell? p).getD undef
theorem cellOf_some {w : World} {p : Addr} (h : (w.cell? p).isSome = true) : w.cell? p = some (cellOf w p) := by
  obtain ⟨v, hv⟩ := Option.isSome_iff_exists.1 h
  rw [cellOf, hv]; rfl
theorem cellOf_set {w : World} {p : Addr} (h : w.cell? p = some (cellOf w p)) (q : Addr) (v : Value) : (w.setCell q v).cell? p = some (cellOf (w.setCell q v) p) := by
  obtain ⟨v', hv'⟩ := cell?_setCell_some (w := w) (p := q) (x := v) (q := p) h
  exact cellOf_some (by rw [hv']; rfl)
theorem cellOf_drew {w : World} {p : Addr} (h : w.cell? p = some (cellOf w p)) : w.drew.cell? p = some (cellOf w.drew p) := h
/-- What the last region needs of memory. -/
def LastS (w' : World) (B : Nat) (a b c : Int) : Prop := w'.cell? ⟨B + 1, 0, none⟩ = some (.int .i64 a) ∧ w'.cell? ⟨B + 1, 1, none⟩ = some (.int .i64 b) ∧ w'.cell? ⟨B + 1, 2, none⟩ = some (.int .i64 c) ∧ w'.frozen? ⟨B, 0, none⟩ = false ∧ w'.frozen? ⟨B, 1, none⟩ = false ∧ w'.frozen? ⟨B, 2, none⟩ = false ∧ w'.cell? ⟨B, 0, none⟩ = some (cellOf w' ⟨B, 0, none⟩) ∧ w'.cell? ⟨B, 1, none⟩ = some (cellOf w' ⟨B, 1, none⟩) ∧ w'.cell? ⟨B, 2, none⟩ = some (cellOf w' ⟨B, 2, none⟩)
theorem lastS_drew {w : World} {B : Nat} {a b c : Int} (h : LastS w B a b c) : LastS w.drew B a b c := h
theorem held_set {w : World} {B : Nat} {a b c : Int} (h : LastS w B a b c) (q : Addr) (hq : q.block = B) (v : Value) : LastS (w.setCell q v) B a b c := by
  obtain ⟨q0, q1, q2, e0, e1, e2, d0, d1, d2⟩ := h
  have ne : ∀ i : Nat, q ≠ ⟨B + 1, i, none⟩ := fun i g => by rw [g] at hq; simp at hq
  refine ⟨?_, ?_, ?_, by rw [World.frozen?_setCell]; exact e0, by rw [World.frozen?_setCell]; exact e1, by rw [World.frozen?_setCell]; exact e2, cellOf_set d0 _ _, cellOf_set d1 _ _, cellOf_set d2 _ _⟩
  · rw [World.cell?_setCell_other _ _ _ _ (ne 0)]; exact q0
  · rw [World.cell?_setCell_other _ _ _ _ (ne 1)]; exact q1
  · rw [World.cell?_setCell_other _ _ _ _ (ne 2)]; exact q2
theorem held_set3 {w : World} {B : Nat} {a b c : Int} (h : LastS w B a b c) (x y z : Value) : LastS (((w.setCell ⟨B, 0, none⟩ x).setCell ⟨B, 1, none⟩ y).setCell ⟨B, 2, none⟩ z).drew B a b c := held_set (held_set (held_set h _ rfl _) _ rfl _) _ rfl _
theorem range_set {w : World} {b : Nat} {cs : List Value} (h : w.rangeAt b 0 cs) (j : Nat) (hj : j < cs.length) (v : Value) : (w.setCell ⟨b, j, none⟩ v).rangeAt b 0 (cs.set j v) := fun i x hx => by
  have hu : w.cell? ⟨b, j, none⟩ = some cs[j] := by have := h j cs[j] (List.getElem?_eq_getElem hj); simpa using this
  have hi : i < cs.length := by have := (List.getElem?_eq_some_iff.1 hx).1; simpa using this
  rw [Nat.zero_add]
  by_cases e : j = i
  · subst e
    rw [World.cell?_setCell_same _ _ _ hu]
    rw [List.getElem?_set_self hj] at hx
    exact hx
  · rw [World.cell?_setCell_other _ _ _ _ (by intro g; injection g with _ g2 _; exact e g2)]
    rw [List.getElem?_set_ne e] at hx
    have := h i x hx
    rwa [Nat.zero_add] at this
/-- What the loop keeps: the two rows, the numbers read so far. -/
def Kept (s : ByteArray) (w : World) (k : Nat) (a b c : Int) (wr : World) : Prop :=
  wr.rangeAt (w.heap.size + 1) 0 (ar3 a b c) ∧ wr.there (w.heap.size + 1) 0 3 ∧ wr.there w.heap.size 0 3 ∧ w.heap.size + 1 < wr.heap.size ∧ Below w.heap.size w wr ∧
      ((0 < k → a = two s 0 ∧ 0 ≤ a) ∧ (1 < k → b = two s 3 ∧ 0 ≤ b ∧ b ≤ 59) ∧ (2 < k → c = two s 6 ∧ 0 ≤ c ∧ c ≤ 59))
theorem kept_start (s : ByteArray) (w : World) (C : Array Value) (hC : C = (ar3 0 0 0).toArray) (t : TypeId) : Kept s w 0 0 0 0 ((w.alloc (.cells C t)).alloc (.cells C t)) := by
  subst hC
  refine ⟨?_, ?_, ?_, by simp, ((Below.refl _ _).alloc (Nat.le_refl _) _).alloc (by simp) _, by omega, by omega, by omega⟩
  · have := rangeAt_new (w.alloc (.cells (ar3 0 0 0).toArray t)) (ar3 0 0 0) t
    simpa using this
  · have := there_new (w.alloc (.cells (ar3 0 0 0).toArray t)) (ar3 0 0 0).toArray t 3 (by simp)
    simpa using this
  · exact there_below (there_new w (ar3 0 0 0).toArray t 3 (by simp)) ((Below.refl _ _).alloc (Nat.le_refl _) _) (by simp)
theorem kept_set {s : ByteArray} {w wr : World} {k : Nat} {a b c : Int} (h : Kept s w k a b c wr) (j : Nat) (hj : j < 3) (v : Int) (a' b' c' : Int) (e : (ar3 a b c).set j (.int .i64 v) = ar3 a' b' c')
    (k' : Nat) (hk : (0 < k' → a' = two s 0 ∧ 0 ≤ a') ∧ (1 < k' → b' = two s 3 ∧ 0 ≤ b' ∧ b' ≤ 59) ∧ (2 < k' → c' = two s 6 ∧ 0 ≤ c' ∧ c' ≤ 59)) :
    Kept s w k' a' b' c' (wr.setCell ⟨w.heap.size + 1, j, none⟩ (.int .i64 v)) := by
  obtain ⟨R, T1, T0, hz, hB, _⟩ := h
  refine ⟨e ▸ range_set R j (by simpa using hj) _, there3_set T1 _ _, there3_set T0 _ _, by simpa using hz, hB.setCell (by simp) _, hk⟩
/-- What lies in the row that is returned, where one number of the three has just been stored. -/
theorem out_set {w wr : World} (T0 : wr.there w.heap.size 0 3) (hB : Below w.heap.size w wr) (j : Nat) (v : Value) (x y z : Int) :
    (((wr.setCell ⟨w.heap.size + 1, j, none⟩ v).setCells w.heap.size 0 (ar3 x y z)).rangeAt w.heap.size 0 (ar3 x y z)) ∧ Below w.heap.size w ((wr.setCell ⟨w.heap.size + 1, j, none⟩ v).setCells w.heap.size 0 (ar3 x y z)) :=
  ⟨World.rangeAt_setCells_same _ _ _ _ (there3_set T0 _ _), below_setCells _ (Nat.le_refl _) _ _ _ (hB.setCell (by simp) _)⟩
theorem not_valid0 {s : ByteArray} (h : numV (List.take 2 s.data.toList) < 0) : ¬ validP s := fun g => by
  have : 0 ≤ numV (List.take 2 s.data.toList) := by have := g.2.1; rw [two_eq] at this; exact this
  omega
theorem not_valid3 {s : ByteArray} (h : numV (List.take 2 (List.drop 3 s.data.toList)) < 0 ∨ 59 < numV (List.take 2 (List.drop 3 s.data.toList))) : ¬ validP s := fun g => by
  have := g.2.2.1; rw [two_eq] at this; omega
theorem not_valid6 {s : ByteArray} (h : numV (List.take 2 (List.drop 6 s.data.toList)) < 0 ∨ 59 < numV (List.take 2 (List.drop 6 s.data.toList))) : ¬ validP s := fun g => by
  have := g.2.2.2.1; rw [two_eq] at this; omega

theorem parts_end {s : ByteArray} {a b c : Int} (h : 8 < s.size) (J : validP s ↔ 0 ≤ numV (restOf s).data.toList) (E : a = two s 0 ∧ b = two s 3 ∧ c = two s 6) :
    PartsIs s a b c (s.extract 9 s.size) (decide (0 ≤ numV (List.take (s.size - 9) (List.drop 9 s.data.toList)))) := by
  have hr : restOf s = s.extract 9 s.size := if_neg (by omega)
  have he : (s.extract 9 s.size).data.toList = List.take (s.size - 9) (List.drop 9 s.data.toList) := by simp
  rw [hr, he] at J
  by_cases g : 0 ≤ numV (List.take (s.size - 9) (List.drop 9 s.data.toList))
  · exact Or.inl ⟨by simpa using g, J.2 g, E.1, E.2.1, E.2.2, hr.symm⟩
  · exact Or.inr ⟨by simpa using g, fun v => g (J.1 v)⟩
theorem restOf_8 {s : ByteArray} (h : s.size = 8) : restOf s = ByteArray.empty := if_pos h
theorem restOf_9 {s : ByteArray} (h : 8 < s.size) : restOf s = s.extract 9 s.size := if_neg (by omega)
theorem numV_empty : numV ByteArray.empty.data.toList = 0 := rfl
set_option maxRecDepth 100000 in
set_option maxHeartbeats 40000000 in
theorem parts_ok (s : ByteArray) (w : World) (hn : shapeP s) :
    Calls Tryz.prog 153 #[.string s] w (PartsPost s w) := by
  have N := Lib.hid hn
  obtain ⟨h8, g2, g5, n9, n15, g8⟩ := hn
  have i2 : (2 : Nat) < s.size := by omega
  have i5 : (5 : Nat) < s.size := by omega
  have p2 : (s[2].toNat : Int) = 32 := (at_of s 2 i2).symm.trans g2
  have p5 : (s[5].toNat : Int) = 32 := (at_of s 5 i5).symm.trans g5
  have n8 : ¬ (s.size : Int) < 8 := by omega
  have n9' : ¬ (s.size : Int) = 9 := by omega
  have n15' : ¬ (15 : Int) < s.size := by omega
  have hcase : (∃ h9 : 8 < s.size, (s[8].toNat : Int) = 46 ∧ (8 : Int) < s.size) ∨ (¬ (8 : Int) < s.size ∧ s.size = 8) := by
    by_cases h9 : 8 < s.size
    · exact Or.inl ⟨h9, (at_of s 8 h9).symm.trans (g8 h9), by omega⟩
    · exact Or.inr ⟨by omega, by omega⟩
  have st := Lib.hid (kept_start s w #[.int .i64 0, .int .i64 0, .int .i64 0] rfl 68)
  clear g2 g5 g8
  go_enter Tryz.func153, Tryz.ntmps153
  rcases hcase with ⟨h9, p8, m9⟩ | ⟨m9, h9⟩ <;>
   (go_wp2
    go_loopw [6] (fun i wr => ∃ (k : Nat) (a b c : Int), k ≤ 3 ∧ i = .int .i64 k ∧ Kept s w k a b c wr) (fun i _ => 3 - (intOf i).toNat)
    case atStart => exact ⟨0, 0, 0, 0, by omega, rfl, st.out⟩
    case round =>
      obtain ⟨k, a, b, c, hk, rfl, R, T1, T0, hz, hB, I⟩ := hrel
      have q0 := R 0 _ rfl
      have q1 := R 1 _ rfl
      have q2 := R 2 _ rfl
      have f0 := fr_at T1 (j := 0) (by omega)
      have f1 := fr_at T1 (j := 1) (by omega)
      have f2 := fr_at T1 (j := 2) (by omega)
      clear st
      rcases (show k = 0 ∨ k = 1 ∨ k = 2 ∨ k = 3 by omega) with rfl | rfl | rfl | rfl
      · have V := Lib.hid (not_valid0 (s := s))
        have O := Lib.hid (out_set T0 hB 0 (.int .i64 (numV (List.take 2 s.data.toList))) (numV (List.take 2 s.data.toList)) b c)
        have G : Hid (∀ (g1 : 0 ≤ numV (List.take 2 s.data.toList)), Kept s w 1 (numV (List.take 2 s.data.toList)) b c (wr.setCell ⟨w.heap.size + 1, 0, none⟩ (.int .i64 (numV (List.take 2 s.data.toList))))) := Lib.hid fun g1 => kept_set ⟨R, T1, T0, hz, hB, I⟩ 0 (by omega) _ (numV (List.take 2 s.data.toList)) b c rfl 1 ⟨fun _ => ⟨(two_eq s 0).symm, g1⟩, by omega, by omega⟩
        have I' := Lib.hid I
        clear I
        go_wp2_with (first | (go_at_call 154; refine (number_any _ _ (by simp; omega)).mono ?_; rintro e w' ⟨rfl, rfl⟩) | (refine wpList_store_mid rfl _ (.tmp 2) (.tmp 69) rfl w.heap.size 0 _ rfl rfl ?_ info42 ?_ ?_; exact there3_set T0 _ _; simp [Value.oneCell']))
        all_goals first
          | (go_roundw
             case rel => exact ⟨1, (numV (List.take 2 s.data.toList)), b, c, by omega, rfl, G.out (by assumption)⟩
             case measure => simp [intOf])
          | (exact bodyPost_ret (ret_cell_tmp2 Tryz.results153 _ _ w.heap.size (ar3 (numV (List.take 2 s.data.toList)) b c) _ rfl O.out.1 Tryz.underlying68 rfl info42) rfl ⟨_, _, _, _, false, rfl, Or.inr ⟨rfl, V.out (by assumption)⟩, O.out.2⟩)
      · have V := Lib.hid (not_valid3 (s := s))
        have O := Lib.hid (out_set T0 hB 1 (.int .i64 (numV (List.take 2 (List.drop 3 s.data.toList)))) a (numV (List.take 2 (List.drop 3 s.data.toList))) c)
        have G : Hid (∀ (g : 0 ≤ numV (List.take 2 (List.drop 3 s.data.toList)) ∧ numV (List.take 2 (List.drop 3 s.data.toList)) ≤ 59), Kept s w 2 a (numV (List.take 2 (List.drop 3 s.data.toList))) c (wr.setCell ⟨w.heap.size + 1, 1, none⟩ (.int .i64 (numV (List.take 2 (List.drop 3 s.data.toList)))))) := Lib.hid fun g => kept_set ⟨R, T1, T0, hz, hB, I⟩ 1 (by omega) _ a (numV (List.take 2 (List.drop 3 s.data.toList))) c rfl 2 ⟨fun _ => I.1 (by omega), fun _ => ⟨(two_eq s 3).symm, g⟩, by omega⟩
        have I' := Lib.hid I
        clear I
        go_wp2_with (first | (go_at_call 154; refine (number_any _ _ (by simp; omega)).mono ?_; rintro e w' ⟨rfl, rfl⟩) | (refine wpList_store_mid rfl _ (.tmp 2) (.tmp 69) rfl w.heap.size 0 _ rfl rfl ?_ info42 ?_ ?_; exact there3_set T0 _ _; simp [Value.oneCell']))
        all_goals first
          | (go_roundw
             case rel => exact ⟨2, a, (numV (List.take 2 (List.drop 3 s.data.toList))), c, by omega, rfl, G.out (by first | assumption | exact ⟨by assumption, by assumption⟩)⟩
             case measure => simp [intOf])
          | (exact bodyPost_ret (ret_cell_tmp2 Tryz.results153 _ _ w.heap.size (ar3 a (numV (List.take 2 (List.drop 3 s.data.toList))) c) _ rfl O.out.1 Tryz.underlying68 rfl info42) rfl ⟨_, _, _, _, false, rfl, Or.inr ⟨rfl, V.out (by first | assumption | exact Or.inl (by assumption) | exact Or.inr (by assumption))⟩, O.out.2⟩)
      · have V := Lib.hid (not_valid6 (s := s))
        have O := Lib.hid (out_set T0 hB 2 (.int .i64 (numV (List.take 2 (List.drop 6 s.data.toList)))) a b (numV (List.take 2 (List.drop 6 s.data.toList))))
        have G : Hid (∀ (g : 0 ≤ numV (List.take 2 (List.drop 6 s.data.toList)) ∧ numV (List.take 2 (List.drop 6 s.data.toList)) ≤ 59), Kept s w 3 a b (numV (List.take 2 (List.drop 6 s.data.toList))) (wr.setCell ⟨w.heap.size + 1, 2, none⟩ (.int .i64 (numV (List.take 2 (List.drop 6 s.data.toList)))))) := Lib.hid fun g => kept_set ⟨R, T1, T0, hz, hB, I⟩ 2 (by omega) _ a b (numV (List.take 2 (List.drop 6 s.data.toList))) rfl 3 ⟨fun _ => I.1 (by omega), fun _ => I.2.1 (by omega), fun _ => ⟨(two_eq s 6).symm, g⟩⟩
        have I' := Lib.hid I
        clear I
        go_wp2_with (first | (go_at_call 154; refine (number_any _ _ (by simp; omega)).mono ?_; rintro e w' ⟨rfl, rfl⟩) | (refine wpList_store_mid rfl _ (.tmp 2) (.tmp 69) rfl w.heap.size 0 _ rfl rfl ?_ info42 ?_ ?_; exact there3_set T0 _ _; simp [Value.oneCell']))
        all_goals first
          | (go_roundw
             case rel => exact ⟨3, a, b, (numV (List.take 2 (List.drop 6 s.data.toList))), by omega, rfl, G.out (by first | assumption | exact ⟨by assumption, by assumption⟩)⟩
             case measure => simp [intOf])
          | (exact bodyPost_ret (ret_cell_tmp2 Tryz.results153 _ _ w.heap.size (ar3 a b (numV (List.take 2 (List.drop 6 s.data.toList)))) _ rfl O.out.1 Tryz.underlying68 rfl info42) rfl ⟨_, _, _, _, false, rfl, Or.inr ⟨rfl, V.out (by first | assumption | exact Or.inl (by assumption) | exact Or.inr (by assumption))⟩, O.out.2⟩)
      · have J0 := I.1 (by omega)
        have J1 := I.2.1 (by omega)
        have J2 := I.2.2 (by omega)
        clear I
        have O := Lib.hid (show (wr.setCells w.heap.size 0 (ar3 a b c)).rangeAt w.heap.size 0 (ar3 a b c) ∧ Below w.heap.size w (wr.setCells w.heap.size 0 (ar3 a b c)) from ⟨World.rangeAt_setCells_same _ _ _ _ T0, below_setCells _ (Nat.le_refl _) _ _ _ hB⟩)
        have J := Lib.hid (show validP s ↔ 0 ≤ numV (restOf s).data.toList from ⟨fun g => g.2.2.2.2, fun g => ⟨N.out, J0.1 ▸ J0.2, J1.1 ▸ J1.2, J2.1 ▸ J2.2, g⟩⟩)
        have E := Lib.hid (show a = two s 0 ∧ b = two s 3 ∧ c = two s 6 from ⟨J0.1, J1.1, J2.1⟩)
        clear J0 J1 J2
        first
          | (have h88 : (s.size : Int) = 8 := by omega
             clear h9
             go_wp2_with (refine wpList_store_mid rfl _ (.tmp 2) (.tmp 73) rfl w.heap.size 0 _ rfl rfl ?_ info42 ?_ ?_; exact T0; simp [Value.oneCell'])
             exact bodyPost_ret (ret_cell_tmp2 Tryz.results153 _ _ w.heap.size (ar3 a b c) _ rfl O.out.1 Tryz.underlying68 rfl info42) rfl ⟨_, _, _, _, _, rfl, Or.inl ⟨rfl, J.out.2 (by rw [restOf_8 (by omega)]; exact Int.le_of_eq numV_empty.symm), E.out.1, E.out.2.1, E.out.2.2, (restOf_8 (by omega)).symm⟩, O.out.2⟩)
          | (have h88 : ¬ (s.size : Int) = 8 := by omega
             have e0 := fr_at T0 (j := 0) (by omega)
             have e1 := fr_at T0 (j := 1) (by omega)
             have e2 := fr_at T0 (j := 2) (by omega)
             have d0 := cellOf_some (T0 0 (by omega)).1
             have d1 := cellOf_some (T0 1 (by omega)).1
             have d2 := cellOf_some (T0 2 (by omega)).1
             have m99 : (9 : Int) ≤ s.size := by omega
             clear f0 f1 f2
             simp only [Nat.zero_add] at q0 q1 q2 e0 e1 e2 d0 d1 d2
             go_wp2_with fail
             have O2 := Lib.hid (show (wr.setCells w.heap.size 0 (ar3 a b c)).drew.rangeAt w.heap.size 0 (ar3 a b c) ∧ Below w.heap.size w (wr.setCells w.heap.size 0 (ar3 a b c)).drew from ⟨O.out.1, O.out.2.drew⟩)
             have PE := Lib.hid (parts_end h9 J.out E.out)
             have HS : LastS wr w.heap.size a b c := ⟨q0, q1, q2, e0, e1, e2, d0, d1, d2⟩
             go_region_held3 (fun w' => w'.cell? ⟨w.heap.size + 1, 0, none⟩ = some (.int .i64 a) ∧ w'.cell? ⟨w.heap.size + 1, 1, none⟩ = some (.int .i64 b) ∧ w'.cell? ⟨w.heap.size + 1, 2, none⟩ = some (.int .i64 c) ∧ w'.frozen? ⟨w.heap.size, 0, none⟩ = false ∧ w'.frozen? ⟨w.heap.size, 1, none⟩ = false ∧ w'.frozen? ⟨w.heap.size, 2, none⟩ = false ∧ w'.cell? ⟨w.heap.size, 0, none⟩ = some (cellOf w' ⟨w.heap.size, 0, none⟩) ∧ w'.cell? ⟨w.heap.size, 1, none⟩ = some (cellOf w' ⟨w.heap.size, 1, none⟩) ∧ w'.cell? ⟨w.heap.size, 2, none⟩ = some (cellOf w' ⟨w.heap.size, 2, none⟩)) (first | exact lastS_drew HS | exact held_set3 HS _ _ _ | exact held_set3 (lastS_drew HS) _ _ _ | (go_keep; done)) (first | (go_at_call 154; refine (number_any _ _ (by simp; omega)).mono ?_; rintro e w' ⟨rfl, rfl⟩))
             go_wp2
             exact bodyPost_ret (ret_cell_tmp2 Tryz.results153 _ _ w.heap.size (ar3 a b c) _ rfl O2.out.1 Tryz.underlying68 rfl info42) rfl ⟨_, _, _, _, _, rfl, PE.out, O2.out.2⟩)
        )
theorem parts_any (s : ByteArray) (w : World) (hs : s.size ≤ maxLen) :
    Calls Tryz.prog 153 #[.string s] w (PartsPost s w) := by
  by_cases h : shapeP s
  · exact parts_ok s w h
  · exact parts_shape s w hs h
end Gp
end Go.Proofs.YtgodhaphbgllhaaGreatDoor
/-
  What the angle of a text is: hours and degrees with parts.
-/
namespace Go.Proofs.YtgodhaphbgllhaaGreatDoor
namespace Gp
open Go.RowKit Lw

theorem numV_bd (l : List UInt8) : -1 ≤ numV l ∧ numV l < 10 ^ l.length := by
  unfold numV
  have p : (0 : Int) < 10 ^ l.length := Int.pow_pos (by omega)
  split
  · rename_i h
    have := numL_bd l l.length (Nat.le_refl _) (by rw [List.take_length]; exact h)
    rw [List.take_length] at this
    omega
  · omega
theorem numV_6 {l : List UInt8} (h : l.length ≤ 6) : -1 ≤ numV l ∧ numV l ≤ 999999 := by
  have a := numV_bd l
  have : ∀ k : Nat, k ≤ 6 → (10 : Int) ^ k ≤ 1000000 := by decide
  have := this _ h
  omega
theorem two_bd (s : ByteArray) (i : Nat) : -1 ≤ two s i ∧ two s i ≤ 99 := by
  have a := numV_bd ((s.extract i (i + 2)).data.toList)
  have b : ((s.extract i (i + 2)).data.toList).length ≤ 2 := by simp; omega
  have : ∀ k : Nat, k ≤ 2 → (10 : Int) ^ k ≤ 100 := by decide
  have := this _ b
  unfold two
  omega
theorem rest_size {s : ByteArray} (h : s.size ≤ 15) : (restOf s).size ≤ 6 := by
  unfold restOf; split
  · simp
  · simp; omega
theorem rest_size_i {s : ByteArray} (h : s.size ≤ 15) : ((restOf s).data.toList).length ≤ 6 := by
  have := rest_size h
  simpa using this
/-- A whole number of seconds. -/
def secs (s : ByteArray) : Int := two s 0 * 3600 + two s 3 * 60 + two s 6
/-- The angle of a text whose second is so many micro-arcseconds. -/
def angV (s : ByteArray) (u : Int) : Int := secs s * u + numV (restOf s).data.toList * (u / tenI (restOf s).size)
theorem div_bd {u t : Int} (hu : 0 ≤ u) (ht : 1 ≤ t) : 0 ≤ u / t ∧ u / t ≤ u := ⟨Int.ediv_nonneg hu (by omega), Int.ediv_le_self _ hu⟩
theorem mul_bd {a b m n : Int} (h0 : 0 ≤ a) (h1 : a ≤ m) (g0 : 0 ≤ b) (g1 : b ≤ n) : 0 ≤ a * b ∧ a * b ≤ m * n :=
  ⟨Int.mul_nonneg h0 g0, Int.le_trans (Int.mul_le_mul_of_nonneg_right h1 g0) (Int.mul_le_mul_of_nonneg_left g1 (by omega))⟩
/-- What is known of the numbers of a text: letters in place of them. -/
theorem valid_letters {s : ByteArray} (h : validP s) (u : Int) (hu : 0 ≤ u) (hu2 : u ≤ 15000000) : ∃ V Q T : Int,
    numV (restOf s).data.toList = V ∧ u.tdiv (tenI (restOf s).size) = Q ∧ tenI (restOf s).size = T ∧ 0 ≤ V ∧ V ≤ 999999 ∧ 1 ≤ T ∧ 0 ≤ Q ∧ Q ≤ 15000000 ∧ 0 ≤ V * Q ∧ V * Q ≤ 14999985000000 ∧
    (restOf s).size ≤ 6 ∧ (0 ≤ two s 0 ∧ two s 0 ≤ 99) ∧ (0 ≤ two s 3 ∧ two s 3 ≤ 59) ∧ (0 ≤ two s 6 ∧ two s 6 ≤ 59) ∧
    Hid (angV s u = (two s 0 * 3600 + two s 3 * 60 + two s 6) * u + V * Q) := by
  obtain ⟨hs, h0, h3, h6, hr⟩ := h
  have h15 := hs.2.2.2.2.1
  have z := rest_size h15
  have v := numV_6 (rest_size_i h15)
  have t := (tenI_bd (restOf s).size (by omega)).1
  have e : u.tdiv (tenI (restOf s).size) = u / tenI (restOf s).size := Int.tdiv_eq_ediv_of_nonneg hu
  have q := div_bd hu t
  have p := mul_bd (a := numV (restOf s).data.toList) (b := u / tenI (restOf s).size) (m := 999999) (n := 15000000) hr v.2 q.1 (by omega)
  exact ⟨_, _, _, rfl, rfl, rfl, hr, v.2, t, by omega, by omega, by rw [e]; exact p.1, by rw [e]; exact p.2, z, ⟨h0, (two_bd s 0).2⟩, h3, h6, Lib.hid (by rw [e]; rfl)⟩
def RaIs (s : ByteArray) (v e : Int) : Prop := (validP s ∧ two s 0 ≤ 23 ∧ v = angV s 15000000 ∧ e = 0) ∨ (¬ (validP s ∧ two s 0 ≤ 23) ∧ v = 0 ∧ e = 12)
theorem RaIs.det {s : ByteArray} {v e v' e' : Int} (h : RaIs s v e) (g : RaIs s v' e') : v = v' ∧ e = e' := by
  rcases h with ⟨h1, h2, h3, h4⟩ | ⟨h1, h2, h3⟩ <;> rcases g with ⟨g1, g2, g3, g4⟩ | ⟨g1, g2, g3⟩
  · exact ⟨by rw [h3, g3], by rw [h4, g4]⟩
  · exact absurd ⟨h1, h2⟩ g1
  · exact absurd ⟨g1, g2⟩ h1
  · exact ⟨by rw [h2, g2], by rw [h3, g3]⟩
/-- The text of a declination: a sign, and the rest. -/
def signP (s : ByteArray) : Prop := 0 < s.size ∧ (((s.get! 0).toNat : Int) = 43 ∨ ((s.get! 0).toNat : Int) = 45)
def tailOf (s : ByteArray) : ByteArray := s.extract 1 s.size
def decOk (s : ByteArray) : Prop := signP s ∧ validP (tailOf s) ∧ two (tailOf s) 0 ≤ 90 ∧ angV (tailOf s) 1000000 ≤ 324000000000
def DecIs (s : ByteArray) (v e : Int) : Prop := (decOk s ∧ v = (if ((s.get! 0).toNat : Int) = 45 then -angV (tailOf s) 1000000 else angV (tailOf s) 1000000) ∧ e = 0) ∨ (¬ decOk s ∧ v = 0 ∧ e = 12)
theorem DecIs.det {s : ByteArray} {v e v' e' : Int} (h : DecIs s v e) (g : DecIs s v' e') : v = v' ∧ e = e' := by
  rcases h with ⟨h1, h3, h4⟩ | ⟨h1, h2, h3⟩ <;> rcases g with ⟨g1, g3, g4⟩ | ⟨g1, g2, g3⟩
  · exact ⟨by rw [h3, g3], by rw [h4, g4]⟩
  · exact absurd h1 g1
  · exact absurd g1 h1
  · exact ⟨by rw [h2, g2], by rw [h3, g3]⟩
end Gp
end Go.Proofs.YtgodhaphbgllhaaGreatDoor
/-
  Plain law of observations: names, checks, and what the columns of a line say; no walk here.
-/
namespace Go.Proofs.YtgodhaphbgllhaaGreatDoor
namespace Op
open Go.RowKit Lw Go.Proofs.YtgodhaphbgllhaaGreatDoor.Ap Go.Proofs.YtgodhaphbgllhaaGreatDoor.Mp

/-! ### Words -/
def dgP (c : Int) : Prop := 48 ≤ c ∧ c ≤ 57
def ltP (c : Int) : Prop := (65 ≤ c ∧ c ≤ 90) ∨ (97 ≤ c ∧ c ≤ 122)
instance (c : Int) : Decidable (dgP c) := by unfold dgP; infer_instance
instance (c : Int) : Decidable (ltP c) := by unfold ltP; infer_instance
def dgB (c : Int) : Bool := decide (dgP c)
def ltB (c : Int) : Bool := decide (ltP c)
/-- Digits and letters alone. -/
def wordP (l : List UInt8) : Prop := ∀ c ∈ l, dgP (c.toNat : Int) ∨ ltP (c.toNat : Int)
instance (l : List UInt8) : Decidable (wordP l) := by unfold wordP; infer_instance
def wordB (l : List UInt8) : Bool := decide (wordP l)
theorem wordP_snoc {l : List UInt8} {c : UInt8} (h : wordP l) (g : dgP (c.toNat : Int) ∨ ltP (c.toNat : Int)) : wordP (l ++ [c]) := fun x hx => by
  rcases List.mem_append.1 hx with hx | hx
  · exact h x hx
  · rw [List.mem_singleton.1 hx]; exact g
theorem word_not (s : ByteArray) (k : Nat) (hk : k < s.size) (h : ¬ (dgP (s[k].toNat : Int) ∨ ltP (s[k].toNat : Int))) : wordB s.data.toList = false := by
  refine decide_eq_false fun g => h (g _ ?_)
  have : s[k] = s.data.toList[k]'(by simpa using hk) := rfl
  rw [this]; exact List.getElem_mem _
theorem word_all (s : ByteArray) (k : Nat) (hk : ¬ k < s.size) (h : wordP (s.data.toList.take k)) : wordB s.data.toList = true := by
  rw [take_all s k hk] at h
  exact decide_eq_true h
/-- Digits alone, and at least one. -/
def digsP (l : List UInt8) : Prop := 0 < l.length ∧ allD l
instance (l : List UInt8) : Decidable (allD l) := by unfold allD; infer_instance
instance (l : List UInt8) : Decidable (digsP l) := by unfold digsP; infer_instance
def digsB (l : List UInt8) : Bool := decide (digsP l)
/-- The name of a numbered object. -/
def numbP (s : ByteArray) : Prop := s.size = 5 ∧ ((bt s 0 = 126 ∧ wordP (s.extract 1 5).data.toList) ∨ (wordP (s.extract 0 1).data.toList ∧ digsP (s.extract 1 5).data.toList))
instance (s : ByteArray) : Decidable (numbP s) := by unfold numbP; infer_instance
def numbB (s : ByteArray) : Bool := decide (numbP s)
def nameP (s : ByteArray) : Prop := numbP s ∨ (1 ≤ s.size ∧ s.size ≤ 7 ∧ wordP s.data.toList)
instance (s : ByteArray) : Decidable (nameP s) := by unfold nameP; infer_instance
def nameB (s : ByteArray) : Bool := decide (nameP s)
/-! ### Observations -/
structure Ob where
  name : ByteArray
  site : ByteArray
  t : Int
  ra : Int
  dec : Int
  sg : Int
  mag : Int
  band : Int
abbrev obsC (o : Ob) : List Value := [.string o.name, .string o.site, .int .i64 o.t, .int .i64 o.ra, .int .i64 o.dec, .int .i64 o.sg, .int .i64 o.mag, .int .u8 o.band]
abbrev obsV (o : Ob) : Value := .agg #[.string o.name, .string o.site, .int .i64 o.t, .int .i64 o.ra, .int .i64 o.dec, .int .i64 o.sg, .int .i64 o.mag, .int .u8 o.band]
def zeroO : Ob := ⟨ByteArray.empty, ByteArray.empty, 0, 0, 0, 0, 0, 0⟩
/-- A time of which a date can be told. -/
def timeP (t : Int) : Prop := bgv (-10227) 1972 1 ≤ t ∧ t < bgv 36525 2100 1
def magP (m b : Int) : Prop := (m = 9999 ∧ b = 32) ∨ (-500 ≤ m ∧ m ≤ 3000 ∧ (b = 32 ∨ ltP b))
def okO (o : Ob) : Prop := timeP o.t ∧ nameP o.name ∧ o.site.size = 3 ∧ wordP o.site.data.toList ∧ 0 ≤ o.ra ∧ o.ra < 1296000000000 ∧ -324000000000 ≤ o.dec ∧ o.dec ≤ 324000000000 ∧ 1 ≤ o.sg ∧ o.sg ≤ 10000000000 ∧ magP o.mag o.band
instance (m b : Int) : Decidable (magP m b) := by unfold magP; infer_instance
instance (t : Int) : Decidable (timeP t) := by unfold timeP; infer_instance
instance (o : Ob) : Decidable (okO o) := by unfold okO; infer_instance
def checkC (o : Ob) : Int := if okO o then 0 else 8
/-! ### Columns -/
/-- Without spaces at the end. -/
def cutL (l : List UInt8) : List UInt8 := (l.reverse.dropWhile (fun c => c == 32)).reverse
def cutS (s : ByteArray) : ByteArray := ⟨(cutL s.data.toList).toArray⟩
def blankP (s : ByteArray) : Prop := ∀ c ∈ s.data.toList, c = 32
instance (s : ByteArray) : Decidable (blankP s) := by unfold blankP; infer_instance
/-- How many bytes stand behind the first point, or 0. -/
def decs (s : ByteArray) : Nat := s.size - ptS s - 1
def magN (s : ByteArray) : Int := 100 * (bt s 1 - 48) + 10 * (bt s 3 - 48) + (if bt s 4 = 32 then 0 else bt s 4 - 48)
/-- What a column of a magnitude says. -/
def MagIs (s : ByteArray) (m : Int) : Prop := bt s 2 = 46 ∧ dgP (bt s 1) ∧ dgP (bt s 3) ∧ (dgP (bt s 4) ∨ bt s 4 = 32) ∧
  ((bt s 0 = 45 ∧ m = -magN s ∧ 0 < magN s) ∨ (bt s 0 = 32 ∧ m = magN s) ∨ (dgP (bt s 0) ∧ bt s 0 ≠ 48 ∧ m = magN s + 1000 * (bt s 0 - 48) ∧ m ≤ 3000))
theorem MagIs.uniq {s : ByteArray} {m m' : Int} (a : MagIs s m) (b : MagIs s m') : m = m' := by
  obtain ⟨_, _, _, _, a⟩ := a
  obtain ⟨_, _, _, _, b⟩ := b
  unfold dgP at *
  omega
/-- What a line says of an observation. -/
structure Good (s : ByteArray) (o : Ob) : Prop where
  size : s.size = 80
  mark : bt s 12 = 32 ∧ bt s 13 = 32 ∧ bt s 14 = 67
  b1 : blankP (s.extract 56 65)
  b2 : blankP (s.extract 71 77)
  p : 3 ≤ decs (cutS (s.extract 15 32)) ∧ decs (cutS (s.extract 15 32)) ≤ 6
  q : 1 ≤ decs (cutS (s.extract 32 44)) ∧ decs (cutS (s.extract 32 44)) ≤ 3
  r : decs (cutS (s.extract 44 56)) ≤ 2
  day : PDayIs (cutS (s.extract 15 32)) o.t 0
  ra : Gp.RaIs (cutS (s.extract 32 44)) o.ra 0
  dec : Gp.DecIs (cutS (s.extract 44 56)) o.dec 0
  site : o.site = s.extract 77 80
  sg : o.sg = (if decs (cutS (s.extract 44 56)) = 0 then 1000000 else if decs (cutS (s.extract 44 56)) = 1 then 300000 else 100000)
  name : (blankP (s.extract 0 5) ∧ o.name = cutS (s.extract 5 12) ∧ ¬ numbP o.name) ∨ (¬ blankP (s.extract 0 5) ∧ o.name = s.extract 0 5 ∧ numbP o.name ∧ blankP (s.extract 5 12))
  mag : (blankP (s.extract 65 71) ∧ o.mag = 9999 ∧ o.band = 32) ∨ (¬ blankP (s.extract 65 71) ∧ MagIs (s.extract 65 70) o.mag ∧ o.band = bt s 70)
  ok : okO o
theorem Good.uniq {s : ByteArray} {o o' : Ob} (a : Good s o) (b : Good s o') : o = o' := by
  have e1 := (a.day.uniq b.day).1
  have e2 := (a.ra.det b.ra).1
  have e3 := (a.dec.det b.dec).1
  have e4 := a.site.trans b.site.symm
  have e5 := a.sg.trans b.sg.symm
  have e6 : o.name = o'.name := by
    rcases a.name with ⟨x1, x2, _⟩ | ⟨x1, x2, _⟩ <;> rcases b.name with ⟨y1, y2, _⟩ | ⟨y1, y2, _⟩
    · rw [x2, y2]
    · exact absurd x1 y1
    · exact absurd y1 x1
    · rw [x2, y2]
  have e7 : o.mag = o'.mag ∧ o.band = o'.band := by
    rcases a.mag with ⟨x1, x2, x3⟩ | ⟨x1, x2, x3⟩ <;> rcases b.mag with ⟨y1, y2, y3⟩ | ⟨y1, y2, y3⟩
    · exact ⟨by omega, by omega⟩
    · exact absurd x1 y1
    · exact absurd y1 x1
    · exact ⟨x2.uniq y2, by omega⟩
  obtain ⟨e7, e8⟩ := e7
  cases o; cases o'
  simp only at e1 e2 e3 e4 e5 e6 e7 e8
  rw [e1, e2, e3, e4, e5, e6, e7, e8]
/-- What Parse returns. -/
def ObsIs (s : ByteArray) (o : Ob) (c : Int) : Prop := (Good s o ∧ c = 0) ∨ ((∀ x, ¬ Good s x) ∧ o = zeroO ∧ c = 12)
theorem ObsIs.uniq {s : ByteArray} {o o' : Ob} {c c' : Int} (a : ObsIs s o c) (b : ObsIs s o' c') : o = o' ∧ c = c' := by
  rcases a with ⟨a1, a2⟩ | ⟨a1, a2, a3⟩ <;> rcases b with ⟨b1, b2⟩ | ⟨b1, b2, b3⟩
  · exact ⟨a1.uniq b1, by omega⟩
  · exact absurd a1 (b1 _)
  · exact absurd b1 (a1 _)
  · exact ⟨by rw [a2, b2], by omega⟩
/-! ### Lines -/
def spL (n : Nat) : List UInt8 := List.replicate n 32
/-- The text of a magnitude. -/
def magB (m : Int) : List UInt8 := (if m < 0 then [45] else []) ++ Lib.itoa ((m.natAbs / 100 : Nat) : Int) ++ [46] ++ At.decL m.natAbs 2
def magL (m : Int) : List UInt8 := spL (5 - (magB m).length) ++ magB m
def nameF (s : ByteArray) : List UInt8 := if numbP s then s.data.toList ++ spL 9 else spL 5 ++ s.data.toList ++ spL (9 - s.size)
def magF (m b : Int) : List UInt8 := if m = 9999 then spL 6 else magL m ++ [UInt8.ofNat b.toNat]
end Op
end Go.Proofs.YtgodhaphbgllhaaGreatDoor
/-
  Reading hours or degrees: package angle's read.
-/
namespace Go.Proofs.YtgodhaphbgllhaaGreatDoor
namespace Gp
open Go.RowKit Lw

/-- The bytes of s lie in a block. -/
def Held (s : ByteArray) (B : Nat) (w' : World) : Prop := B < w'.heap.size ∧ ∀ j (h : j < s.size), w'.cell? ⟨B, j, none⟩ = some (.int .u8 (s[j].toNat : Int))
theorem held_below {s : ByteArray} {B : Nat} {a b : World} (h : Held s B a) (hb : Below a.heap.size a b) : Held s B b :=
  ⟨Nat.lt_of_lt_of_le h.1 hb.size, fun j hj => by rw [hb.cell (p := ⟨B, j, none⟩) h.1]; exact h.2 j hj⟩
theorem held_drew {s : ByteArray} {B : Nat} {a : World} (h : Held s B a) : Held s B a.drew := h
theorem bytes_in (w : World) (s : ByteArray) : ∃ (W : World) (cap : Nat), (convert 9 42 (.string s)).run Tryz.prog w = .ok (.slice (some ⟨w.heap.size, 0, none⟩) s.size cap) W ∧ Held s w.heap.size W ∧ Below w.heap.size w W ∧ s.size ≤ cap := by
  refine ⟨_, _, run_bytes_of_string (P := Tryz.prog) w 9 42 5 s Tryz.underlying9 Tryz.underlying42 Tryz.underlying5, ⟨by simp, fun j hj => ?_⟩, ((Below.refl _ w).drew).alloc (Nat.le_refl _) _, ?_⟩
  · rw [cell_of_row (World.alloc _ _) w.heap.size j (bytesRow s (grownCap w s.size 0 5)) 5 ((bytesRow s (grownCap w s.size 0 5)).size, (bytesRow s (grownCap w s.size 0 5)).size + 1) (by show (w.heap.push _)[w.heap.size]? = _; simp)]
    have hj' : j < s.data.size := hj
    unfold bytesRow
    rw [Array.getElem?_append_left (by simpa using hj'), Array.getElem?_map, Array.getElem?_eq_getElem hj']
    rfl
  · exact grownCap_ge w s.size 0 _
theorem back_any {s : ByteArray} {B : Nat} {w' : World} (h : Held s B w') (i n cap : Nat) (hin : i + n ≤ s.size) :
    (convert 42 9 (.slice (some ⟨B, i, none⟩) n cap)).run Tryz.prog w' = .ok (.string (s.extract i (i + n))) w' := by
  have hl : (s.extract i (i + n)).data.toList.length = n := by simp; omega
  have := run_convert_bytes_back (P := Tryz.prog) w' 42 9 5 ⟨B, i, none⟩ cap (s.extract i (i + n)).data.toList Tryz.underlying42 Tryz.underlying5 Tryz.underlying9 (fun j hj => by
    have := h.2 (i + j) (by rw [hl] at hj; omega)
    rw [Addr.add_mid, this]
    congr 3
    simp [ByteArray.getElem_eq_getElem_data])
  rw [hl] at this
  exact this
def ReadIs (s : ByteArray) (H a p : Int) (d : Nat) (ok : Bool) : Prop :=
  (ok = true ∧ validP s ∧ two s 0 ≤ H ∧ a = secs s ∧ p = numV (restOf s).data.toList ∧ d = (restOf s).size) ∨ (ok = false ∧ ¬ (validP s ∧ two s 0 ≤ H) ∧ (0 ≤ a ∧ a ≤ 1000000) ∧ (-1 ≤ p ∧ p ≤ 999999) ∧ d ≤ 6)
def ReadPost (s : ByteArray) (H : Int) (w : World) (e : Ending) (w' : World) : Prop := ∃ (a p : Int) (d : Nat) (ok : Bool), e = .returned (.tuple #[.int .i64 a, .int .i64 p, .int .i64 d, .bool ok]) ∧ ReadIs s H a p d ok ∧ Below w.heap.size w w'
end Gp
end Go.Proofs.YtgodhaphbgllhaaGreatDoor
