/-
  What ParseDay calls: slices.ContainsFunc at bytes, strconv.ParseUint at digits; and what its text says.
-/
import Derived.Test.YtmgehfakcnmdnaaDoorMParse
import Derived.Test.YtmgehfakcnmdnaaDoorMPart
import Derived.LoopTactic
import Derived.Test.YtmgehfakcnmdnaaDoorMRef3
namespace Go.Proofs.YtmgehfakcnmdnaaDoor
namespace Ap
open Go.RowKit Lw Go.Proofs.YtmgehfakcnmdnaaDoor.Mp

/-- The bytes of a string in a block. -/
def Held (s : ByteArray) (B : Nat) (w' : World) : Prop := B < w'.heap.size ∧ ∀ j (h : j < s.size), w'.cell? ⟨B, j, none⟩ = some (.int .u8 (s[j].toNat : Int))
theorem bytes_in (w : World) (s : ByteArray) : ∃ (W : World) (cap : Nat), (convert 9 43 (.string s)).run Tryd.prog w = .ok (.slice (some ⟨w.heap.size, 0, none⟩) s.size cap) W ∧ Held s w.heap.size W ∧ Below w.heap.size w W ∧ s.size ≤ cap := by
  refine ⟨_, _, run_bytes_of_string (P := Tryd.prog) w 9 43 5 s Tryd.underlying9 Tryd.underlying43 Tryd.underlying5, ⟨by simp, fun j hj => ?_⟩, ((Below.refl _ w).drew).alloc (Nat.le_refl _) _, ?_⟩
  · rw [cell_of_row (World.alloc _ _) w.heap.size j (bytesRow s (grownCap w s.size 0 5)) 5 ((bytesRow s (grownCap w s.size 0 5)).size, (bytesRow s (grownCap w s.size 0 5)).size + 1) (by show (w.heap.push _)[w.heap.size]? = _; simp)]
    have hj' : j < s.data.size := hj
    unfold bytesRow
    rw [Array.getElem?_append_left (by simpa using hj'), Array.getElem?_map, Array.getElem?_eq_getElem hj']
    rfl
  · exact grownCap_ge w s.size 0 _
theorem dig_any (c : Int) (w : World) : Calls Tryd.prog 17 #[.int .u8 c] w fun e w' => e = .returned (.bool (decide (¬ (48 ≤ c ∧ c ≤ 57)))) ∧ w = w' := by
  by_cases h1 : c < 48
  · have e : decide (¬ (48 ≤ c ∧ c ≤ 57)) = true := decide_eq_true (by omega)
    rw [e]
    go_enter Tryd.func17, Tryd.ntmps17
    go_wp2
    go_ret
    exact ⟨rfl, rfl⟩
  · by_cases h2 : 57 < c
    · have e : decide (¬ (48 ≤ c ∧ c ≤ 57)) = true := decide_eq_true (by omega)
      rw [e]
      go_enter Tryd.func17, Tryd.ntmps17
      go_wp2
      go_ret
      exact ⟨rfl, rfl⟩
    · have e : decide (¬ (48 ≤ c ∧ c ≤ 57)) = false := decide_eq_false (by omega)
      rw [e]
      go_enter Tryd.func17, Tryd.ntmps17
      go_wp2
      go_ret
      exact ⟨rfl, rfl⟩
theorem allD_no {s : ByteArray} {k : Nat} (hk : k < s.size) (h : ¬ (48 ≤ (s[k].toNat : Int) ∧ (s[k].toNat : Int) ≤ 57)) : ¬ allD s.data.toList := fun g => by
  have := (allD_bt s).1 g k hk
  rw [bt_of s k hk] at this
  exact h this
theorem allD_yes {s : ByteArray} {k : Nat} (hk : ¬ k < s.size) (h : allD (s.data.toList.take k)) : allD s.data.toList := by rwa [take_all s k hk] at h
set_option maxRecDepth 100000 in
set_option maxHeartbeats 2000000 in
theorem index_any (s : ByteArray) (B cap : Nat) (w : World) (hs : s.size ≤ 1000) (hH : Held s B w) :
    Calls Tryd.prog 32 #[.slice (some ⟨B, 0, none⟩) s.size cap, .func (.func 17) #[] #[]] w fun e w' => ∃ r : Int, e = .returned (.int .i64 r) ∧ (0 ≤ r ↔ ¬ allD s.data.toList) ∧ w = w' := by
  go_enter Tryd.func32, Tryd.ntmps32
  go_wp2_with fail
  go_loop [8] (fun i => ∃ k : Nat, k ≤ s.size ∧ i = .int .i64 k ∧ Hid (allD (s.data.toList.take k))) (fun i => s.size - (intOf i).toNat)
  case atStart => exact ⟨0, Nat.zero_le _, rfl, Lib.hid (by intro c hc; simp at hc)⟩
  case round =>
    obtain ⟨k, hk, rfl, D⟩ := hrel
    by_cases hlt : k < s.size
    · have i1 : (k : Int) < (s.size : Int) := by omega
      have i0 : 0 ≤ (k : Int) := by omega
      have ck := hH.2 k hlt
      by_cases d : 48 ≤ (s[k].toNat : Int) ∧ (s[k].toNat : Int) ≤ 57
      · have D2 := Lib.hid (show allD (s.data.toList.take (k + 1)) by rw [take_snoc s k hlt]; exact allD_snoc D.out d.1 d.2)
        have DA := fun w' => dig_any (s[k].toNat : Int) w'
        rw [show decide (¬ (48 ≤ (s[k].toNat : Int) ∧ (s[k].toNat : Int) ≤ 57)) = false from decide_eq_false (not_not_intro d)] at DA
        replace DA := Lib.hid DA
        clear d
        go_wp2_with (go_at_call 17; refine (DA.out _).mono ?_; rintro e w' ⟨rfl, rfl⟩)
        go_round
        case rel => exact ⟨k + 1, by omega, by go_num, D2⟩
        case measure => simp [intOf]; omega
      · have N := Lib.hid (allD_no hlt d)
        have DA := fun w' => dig_any (s[k].toNat : Int) w'
        rw [show decide (¬ (48 ≤ (s[k].toNat : Int) ∧ (s[k].toNat : Int) ≤ 57)) = true from decide_eq_true d] at DA
        replace DA := Lib.hid DA
        clear d
        go_wp2_with (go_at_call 17; refine (DA.out _).mono ?_; rintro e w' ⟨rfl, rfl⟩)
        go_ret
        exact ⟨k, rfl, ⟨fun _ => N.out, fun _ => by omega⟩, rfl⟩
    · have N := Lib.hid (allD_yes hlt D.out)
      go_wp2_with fail
      go_ret
      exact ⟨-1, rfl, ⟨fun g => absurd g (by decide), fun g => absurd N.out g⟩, rfl⟩
theorem contains_any (s : ByteArray) (B cap : Nat) (w : World) (hs : s.size ≤ 1000) (hH : Held s B w) :
    Calls Tryd.prog 16 #[.slice (some ⟨B, 0, none⟩) s.size cap, .func (.func 17) #[] #[]] w fun e w' => e = .returned (.bool (decide (¬ allD s.data.toList))) ∧ w = w' := by
  go_enter Tryd.func16, Tryd.ntmps16
  go_wp2_with fail
  refine (index_any s B cap w hs hH).mono ?_
  rintro e w1 ⟨r, rfl, hr, rfl⟩
  have E := Lib.hid (show decide (¬ allD s.data.toList) = decide (0 ≤ r) from decide_eq_decide.2 hr.symm)
  clear hr
  go_wp2_with fail
  go_ret
  exact ⟨ret_b E.out.symm, rfl⟩
theorem numL_cons (l : List UInt8) : numL (48 :: l) = numL l := by
  have h48 : ((48 : UInt8).toNat : Int) = 48 := rfl
  unfold numL
  rw [List.foldl_cons, h48]
  rfl
/-- What ParseUint makes of digits. -/
theorem parse_m : ∀ (l : List UInt8) (acc : Nat), allD l → acc * 10 ^ l.length + 10 ^ l.length ≤ 1000000000000000000 → ∃ u : Nat, Lib.parseUintM (2 ^ 64 - 1) acc l = .ok u ∧ (u : Int) = l.foldl (fun n c => 10 * n + ((c.toNat : Int) - 48)) (acc : Int)
  | [], acc, _, _ => ⟨acc, rfl, rfl⟩
  | c :: r, acc, hd, hb => by
    obtain ⟨h1, h2⟩ := hd c (List.mem_cons_self ..)
    have hp : 1 ≤ 10 ^ r.length := Nat.pow_pos (by omega)
    rw [List.length_cons, Nat.pow_succ] at hb
    have hm : acc * (10 ^ r.length * 10) = acc * 10 * 10 ^ r.length := by rw [Nat.mul_comm (10 ^ r.length) 10, Nat.mul_assoc]
    rw [hm] at hb
    have hle : acc * 10 ≤ acc * 10 * 10 ^ r.length := Nat.le_mul_of_pos_right _ hp
    have hb2 : (acc * 10 + (c.toNat - 48)) * 10 ^ r.length + 10 ^ r.length ≤ 1000000000000000000 := by
      rw [Nat.add_mul]
      have : (c.toNat - 48) * 10 ^ r.length ≤ 9 * 10 ^ r.length := Nat.mul_le_mul_right _ (by omega)
      omega
    obtain ⟨u, hu, hv⟩ := parse_m r (acc * 10 + (c.toNat - 48)) (fun x hx => hd x (List.mem_cons_of_mem _ hx)) hb2
    refine ⟨u, ?_, ?_⟩
    · unfold Lib.parseUintM
      rw [if_pos ⟨by omega, by omega⟩, if_neg (by omega), if_neg (by omega)]
      exact hu
    · rw [hv, List.foldl_cons]
      congr 1
      omega
theorem parse_u (t : ByteArray) (h : allD t.data.toList) (hs : t.size ≤ 9) : ∃ u : Nat, Lib.parseUintB 64 ((⟨#[48]⟩ : ByteArray) ++ t).data.toList = .ok u ∧ (u : Int) = numL t.data.toList := by
  have e : ((⟨#[48]⟩ : ByteArray) ++ t).data.toList = 48 :: t.data.toList := by simp
  have hl : t.data.toList.length = t.size := rfl
  obtain ⟨u, hu, hv⟩ := parse_m (48 :: t.data.toList) 0 (fun c hc => by
    rcases List.mem_cons.1 hc with rfl | hc
    · exact ⟨by decide, by decide⟩
    · exact h c hc) (by
    rw [List.length_cons, hl]
    have : ∀ r : Nat, r ≤ 9 → 0 * 10 ^ (r + 1) + 10 ^ (r + 1) ≤ 1000000000000000000 := by decide
    exact this _ hs)
  refine ⟨u, ?_, ?_⟩
  · rw [e]
    unfold Lib.parseUintB
    rw [if_neg (by simp)]
    exact hu
  · rw [hv]
    exact numL_cons _
/-! ### What the program finds of a day text -/
def progD (s : ByteArray) : Prop := likeP (hdP s) P10 ∧ (ptS s < s.size → 1 ≤ (tlP s).size ∧ (tlP s).size ≤ 9) ∧ allD (tlP s).data.toList
theorem up_zero : upI (0 * 0) 1 = 0 := by decide
theorem prog_day {s : ByteArray} (g : progD s) : dayP s ∧ hdP s = s.extract 0 10 ∧ partV s = upI (numL (tlP s).data.toList * dayLen (nm s 0 4) (nm s 5 7) (nm s 8 10)) (tenI (tlP s).size) := by
  obtain ⟨lk, sz, ad⟩ := g
  have hq : ptS s = 10 := by
    have := lk.1
    rw [P10_size] at this
    have le := ptS_le s
    unfold hdP at this
    rw [size_ext _ _ _ le] at this
    omega
  have hle := ptS_le s
  have hh : hdP s = s.extract 0 10 := by unfold hdP; rw [hq]
  rw [hh] at lk
  by_cases hp : ptS s < s.size
  · have ht : tlP s = s.extract 11 s.size := by
      unfold tlP
      rw [if_pos hp, hq]
    have hs := sz hp
    rw [ht, size_ext s _ _ (by omega)] at hs
    have h46 := pt_at s hp
    rw [hq] at h46
    have ad' := ad
    rw [ht] at ad'
    refine ⟨⟨by omega, by omega, by omega, lk, fun _ => ⟨h46, (numV_nn _).2 ad'⟩⟩, hh, ?_⟩
    unfold partV
    rw [if_neg (by omega), ht, size_ext s _ _ (by omega)]
    have : nm s 11 s.size = numL (s.extract 11 s.size).data.toList := numV_yes ad'
    rw [this]
  · have ht : tlP s = ⟨#[]⟩ := if_neg hp
    refine ⟨⟨by omega, by omega, by omega, lk, fun h => absurd h (by omega)⟩, hh, ?_⟩
    unfold partV
    rw [if_pos (by omega), ht]
    have e0 : numL (⟨#[]⟩ : ByteArray).data.toList = 0 := rfl
    have e1 : tenI (⟨#[]⟩ : ByteArray).size = 1 := rfl
    rw [e0, e1, Int.zero_mul]
    rfl
theorem day_prog {s : ByteArray} (g : dayP s) : progD s := by
  obtain ⟨h10, h11, h20, lk, hm⟩ := g
  have no := like_no46 lk (by rw [size_ext s _ _ (by omega)]) P10_no
  have hq : ptS s = 10 := by
    refine pt_uniq (by omega) (fun j hj => ?_) (fun h => (hm h).1)
    have := no j (by omega)
    rw [bt_ext s 0 10 j (by omega) (by omega)] at this
    simpa using this
  have hh : hdP s = s.extract 0 10 := by unfold hdP; rw [hq]
  refine ⟨by rw [hh]; exact lk, fun hp => ?_, ?_⟩
  · have ht : tlP s = s.extract 11 s.size := by
      unfold tlP
      rw [if_pos hp, hq]
    rw [ht, size_ext s _ _ (by omega)]
    omega
  · by_cases hp : ptS s < s.size
    · have ht : tlP s = s.extract 11 s.size := by
        unfold tlP
        rw [if_pos hp, hq]
      rw [ht]
      exact (numV_nn _).1 (hm (by omega)).2
    · have ht : tlP s = ⟨#[]⟩ := if_neg hp
      rw [ht]
      exact fun c hc => absurd hc (by simp)
/-- The length of a day is the time between two beginnings. -/
theorem day_diff {y m d z k : Int} (hw : wholeP y m d) (hz : IsYM (dn y m d + 1) z k) : bgv (dn y m d + 1) z k - bgv (dn y m d) y m = dayLen y m d := by
  unfold dayLen
  rcases day_len hw hz with ⟨a, b⟩ | ⟨a, b⟩
  · unfold leapday at b
    rw [if_neg b]; omega
  · unfold leapday at b
    rw [if_pos b]; omega
theorem dayLen_bd (y m d : Int) : 86400000000 ≤ dayLen y m d ∧ dayLen y m d ≤ 86401000000 := by unfold dayLen; split <;> omega
theorem secs_len (y m d : Int) : Mw.secs y m d * 1000000 = dayLen y m d := by unfold Mw.secs dayLen; split <;> rfl
end Ap
end Go.Proofs.YtmgehfakcnmdnaaDoor
