/-
  Lemmas and walks, texts joined: TKLaw, OSlice, TKLaid.
-/
import Derived.Deep.Slices
import Derived.Deep.Fields
import Derived.ChangeSame
import Derived.OpenShut
import Derived.Test.YtjgcbeihgeaimaaGreatDoorTa03
import Derived.Test.YtjgcbeihgeaimaaGreatDoorTa04
import Derived.Test.YtjgcbeihgeaimaaGreatDoorTa06
import Derived.Test.YtjgcbeihgeaimaaGreatDoorTa10
import Derived.Test.YtjgcbeihgeaimaaGreatDoorTa05
import Derived.Test.YtjgcbeihgeaimaaGreatDoorTa02
import Derived.Test.YtjgcbeihgeaimaaGreatDoorCards
set_option linter.unusedSimpArgs false
set_option linter.unusedVariables false
/-
  The walk of the law TrackletSets.
-/
namespace Go.Proofs.YtjgcbeihgeaimaaGreatDoor
namespace Tw
open Go.RowKit Lw Ow Tk Go.Proofs.YtjgcbeihgeaimaaGreatDoor.Ap Go.Proofs.YtjgcbeihgeaimaaGreatDoor.Op Go.Proofs.YtjgcbeihgeaimaaGreatDoor.Mp Go.Proofs.YtjgcbeihgeaimaaGreatDoor.Mw Go.Proofs.YtjgcbeihgeaimaaGreatDoor.At

theorem info5 : (Tryz.prog.info? 24).map (·.size) = some 5 := by kernel_rfl
theorem insL_len (s : List Nat) : ∀ l, (insL s l).length = l.length + 1
  | [] => rfl
  | t :: l => by
    rw [insL]
    split
    · rfl
    · rw [List.length_cons, insL_len s l, List.length_cons]
theorem refTo_len (K : List (List Nat)) (c : Nat) : ∀ n, (refTo K c n).length ≤ n
  | 0 => Nat.le_refl _
  | n + 1 => by
    have := refTo_len K c n
    rw [refTo]
    split
    · rw [insL_len]; omega
    · omega
/-- What Find returns. -/
def KF (l : List Ob) (u : Rl) : List (List Nat) := if stT l u = 0 then refTo ((allA l u l.length).map (setOf l u)) u.count.toNat ((allA l u l.length).map (setOf l u)).length else []
theorem sets_inc (l : List Ob) (u : Rl) : ∀ s ∈ (allA l u l.length).map (setOf l u), Inc s := fun s hs => by
  obtain ⟨z, -, rfl⟩ := List.mem_map.1 hs
  exact inc_filter _ _
theorem KF_is {l : List Ob} {u : Rl} (hs : stT l u = 0 → l.length ≤ 9) {K' : List (List Nat)} (h1 : stT l u = 0 → K'.Pairwise (fun s t => ltL t s = false) ∧ K'.Perm (keepL ((allA l u l.length).map (maskOf l u)) u.count.toNat)) (h2 : stT l u ≠ 0 → K' = []) : K' = KF l u := by
  unfold KF
  by_cases h : stT l u = 0
  · rw [if_pos h]
    obtain ⟨a, b⟩ := h1 h
    have f1 := prog_find (M := (allA l u l.length).map (maskOf l u)) (fun x hx => by
      obtain ⟨z, -, rfl⟩ := List.mem_map.1 hx
      exact maskTo_lt l u _ _ (hs h) _) b a
    rw [List.map_map, show (bitsL ∘ maskOf l u) = setOf l u from funext fun z => mask_set l u z (hs h)] at f1
    exact f1.uniq (ref_find (sets_inc l u))
  · rw [if_neg h]
    exact h2 h
theorem KF_small {l : List Ob} {u : Rl} (hs : stT l u = 0 → l.length ≤ 9) : (KF l u).length ≤ 1000000 ∧ ∀ s ∈ KF l u, s.length ≤ 1000000 := by
  unfold KF
  by_cases h : stT l u = 0
  · rw [if_pos h]
    have h9 := hs h
    refine ⟨?_, fun s hm => ?_⟩
    · have := refTo_len ((allA l u l.length).map (setOf l u)) u.count.toNat ((allA l u l.length).map (setOf l u)).length
      have a := allA_len l u l.length
      have b := Nat.mul_le_mul (show l.length ≤ 10 by omega) (show l.length ≤ 10 by omega)
      rw [List.length_map] at this
      rw [List.length_map]
      omega
    · have := ((ref_find (count := u.count.toNat) (sets_inc l u)).mem s).1 hm
      obtain ⟨z, -, rfl⟩ := List.mem_map.1 this.1
      exact Nat.le_trans (List.length_filter_le _ _) (by simp; omega)
  · rw [if_neg h]
    exact ⟨by simp, fun s h => by cases h⟩
theorem find2_any (x : Option Addr) (cap : Nat) (l : List Ob) (u : Rl) (w : World) (hE : ES w) (hD : DB w) (hl : SlA w x l) (hm0 : l.length ≤ 1000000) (hs : stT l u = 0 → l.length ≤ 9) (hb : OBs l) :
    Calls Tryz.prog 7 #[.slice x l.length cap, rlV u] w fun e w' => ∃ V, e = .returned (.tuple #[V, .int .i64 (stT l u)]) ∧ Below w.heap.size w w' ∧ SetsAt w' V (KF l u) :=
  (find_any x cap l u w hE hD hl hm0 hs hb).mono fun _ _ ⟨V, he, hb', K', h1, h2, h3⟩ => ⟨V, he, hb', KF_is hs h2 h3 ▸ h1⟩
theorem rfind2_any (x : Option Addr) (cap : Nat) (l : List Ob) (u : Rl) (w : World) (hl : SlA w x l) (hm0 : l.length ≤ 1000000) (hs : stT l u = 0 → l.length ≤ 9) (hb : OBs l) :
    Calls Tryz.prog 8 #[.slice x l.length cap, rlV u] w fun e w' => ∃ V, e = .returned (.tuple #[V, .int .i64 (stT l u)]) ∧ Below w.heap.size w w' ∧ SetsAt w' V (KF l u) :=
  rfind_any x cap l u w hl hm0 hs hb
theorem pairs_small {l : List Ob} {u : Rl} (hm : l.length ≤ 210) : (pairsL l u).length ≤ 1000000 := by
  unfold pairsL
  split
  · rw [List.length_map]
    have a := allA_len l u l.length
    have b := Nat.mul_le_mul hm hm
    omega
  · simp
set_option maxRecDepth 100000 in
set_option maxHeartbeats 4000000 in
theorem law_out (x : Option Addr) (cap : Nat) (l : List Ob) (u : Rl) (w : World) (hl : SlA w x l) (hm : l.length ≤ 9223372036854775807) (hb : OBs l) (hg : greatT l 9 = true) : Calls Tryz.prog 3 #[.slice x l.length cap, rlV u] w fun e w' => e = .returned (.bool true) ∧ Below w.heap.size w w' := by
  have F0 := Lib.hid ((Fr.start w).alloc (rlC u) 24)
  have GR := tgreat_sl x cap l _ (hl.below F0.out.below) hm hb
  rw [hg] at GR
  clear hl hb hg
  go_enter Tryz.func3, Tryz.ntmps3
  go_wp2_with (go_at_call 4; refine GR.mono ?_; rintro e w1 ⟨rfl, rfl⟩)
  exact bodyPost_ret (results_tmp rfl _ _ _) rfl ⟨rfl, F0.out.below⟩
set_option maxRecDepth 100000 in
set_option maxHeartbeats 40000000 in
theorem law_main (x : Option Addr) (cap : Nat) (l : List Ob) (u : Rl) (w : World) (hE : ES w) (hD : DB w) (hl : SlA w x l) (hc : x = none → l = [] ∧ cap = 0) (hb : OBs l) (hg : greatT l 9 = false) : Calls Tryz.prog 3 #[.slice x l.length cap, rlV u] w fun e w' => e = .returned (.bool true) ∧ Below w.heap.size w w' := by
  have hm : l.length ≤ 210 := by
    rcases greatT_len hg with h | ⟨_, h⟩ <;> omega
  have hs : stT l u = 0 → l.length ≤ 9 := fun h => by
    have := (stT_ok h).1
    rcases greatT_len hg with h | ⟨h, _⟩
    · exact h
    · omega
  have F0 := Lib.hid ((Fr.start w).alloc (rlC u) 24)
  have GR := tgreat_sl x cap l _ (hl.below F0.out.below) (by omega) hb
  rw [hg] at GR
  replace GR := Lib.hid GR
  have HL := Lib.hid (fun w' (h : Below w.heap.size w w') => hl.below h)
  have P1 := Lib.hid (fun w' (h : Below w.heap.size w w') => pairs_any x cap l u w' (hE.below h) (hl.below h) (by omega) hb)
  have P2 := Lib.hid (fun y d w' (h : SlA w' y l) => rpairs2_any y d l u w' h (by omega) hb)
  have P3 := Lib.hid (fun w' (h : Below w.heap.size w w') => find2_any x cap l u w' (hE.below h) (hD.below h) (hl.below h) (by omega) hs hb)
  have P4 := Lib.hid (fun y d w' (h : SlA w' y l) => rfind2_any y d l u w' h (by omega) hs hb)
  have S1 := Lib.hid (fun A1 A2 c1 c2 w' => samepairs_any A1 A2 c1 c2 (pairsL l u) w')
  have S2 := Lib.hid (fun V1 V2 w' (h1 : SetsAt w' V1 (KF l u)) (h2 : SetsAt w' V2 (KF l u)) => samesets_any V1 V2 (KF l u) w' h1 h2 (KF_small hs).1 (KF_small hs).2)
  have S3 := Lib.hid (fun w' y d (h : Below w.heap.size w w') (g : SlA w' y l) => same_any x y cap d l w' (hl.below h) g (by omega))
  have PS := Lib.hid (pairs_small (u := u) hm)
  have HC := Lib.hid hc
  have hm := Lib.hid hm
  clear hl hE hD hb hg hc hs
  rcases x with _ | ad
  · first
    | (obtain ⟨e1, e2⟩ := HC.out rfl; subst e1 e2; rw [List.length_nil]; rw [List.length_nil] at P1 GR P3 S3)
    | skip
    go_enter Tryz.func3, Tryz.ntmps3
    go_wp2_with (first | (go_at_call 4; refine GR.out.mono ?_; rintro e w1 ⟨rfl, rfl⟩; clear GR) | (at_builtin; refine wp_copy0 _ rfl (.tmp 16) (.tmp 17) rfl (congrArg (fun n => Value.slice (some ⟨n, 0, none⟩) 0 0) (World.size_alloc w _).symm) rfl ?_; intro v' w3 hO hb3; have F3 := F0.out.call hb3; have c0 := F3.cell 0 0 rfl rfl; have c1 := F3.cell 0 1 rfl rfl; have c2 := F3.cell 0 2 rfl rfl; have c3 := F3.cell 0 3 rfl rfl; have c4 := F3.cell 0 4 rfl rfl; have F3 := Lib.hid F3) | (at_builtin; refine wp_copy _ rfl (.tmp 16) (.tmp 17) rfl l ad cap (congrArg (fun n => Value.slice (some ⟨n, 0, none⟩) 0 0) (World.size_alloc w _).symm) rfl (HL.out _ F0.out.below) (by have := hm.out; omega) ?_; intro v' w3 hO hb3; have F3 := F0.out.call hb3; have c0 := F3.cell 0 0 rfl rfl; have c1 := F3.cell 0 1 rfl rfl; have c2 := F3.cell 0 2 rfl rfl; have c3 := F3.cell 0 3 rfl rfl; have c4 := F3.cell 0 4 rfl rfl; have F3 := Lib.hid F3))
    obtain ⟨y, d, rfl, hy⟩ := slV_of hO.1
    have HY := Lib.hid (fun w' (h : Below w3.heap.size w3 w') => hy.below h)
    clear hO hb3 hy c0 c1 c2 c3 c4
    first | rw [List.length_nil] at * | skip
    refine (P1.out _ F3.out.below).mono ?_
    rintro e w4 ⟨V4, rfl, hO4, hb4⟩
    have O4 := Lib.hid hO4
    have F4 := F3.out.call hb4
    have c0 := F4.cell 0 0 rfl rfl
    have c1 := F4.cell 0 1 rfl rfl
    have c2 := F4.cell 0 2 rfl rfl
    have c3 := F4.cell 0 3 rfl rfl
    have c4 := F4.cell 0 4 rfl rfl
    have F4 := Lib.hid F4
    have C4 := Lib.hid hb4
    clear P1 hO4 hb4
    go_wp2_with fail
    refine (P2.out _ _ _ (HY.out _ C4.out)).mono ?_
    rintro e w5 ⟨V5, rfl, hO5, hb5⟩
    have O5 := Lib.hid hO5
    have OB := Lib.hid (O4.out.below hb5)
    have F5 := F4.out.call hb5
    have c0 := F5.cell 0 0 rfl rfl
    have c1 := F5.cell 0 1 rfl rfl
    have c2 := F5.cell 0 2 rfl rfl
    have c3 := F5.cell 0 3 rfl rfl
    have c4 := F5.cell 0 4 rfl rfl
    have F5 := Lib.hid F5
    have C5 := Lib.hid (below_then C4.out hb5)
    clear P2 hO5 hb5 C4 O4 F4
    go_wp2_with fail
    refine (P3.out _ F5.out.below).mono ?_
    rintro e w6 ⟨V6, rfl, hb6, hS6⟩
    have O6 := Lib.hid (O5.out.below hb6)
    have OB6 := Lib.hid (OB.out.below hb6)
    have T6 := Lib.hid hS6
    have F6 := F5.out.call hb6
    have c0 := F6.cell 0 0 rfl rfl
    have c1 := F6.cell 0 1 rfl rfl
    have c2 := F6.cell 0 2 rfl rfl
    have c3 := F6.cell 0 3 rfl rfl
    have c4 := F6.cell 0 4 rfl rfl
    have F6 := Lib.hid F6
    have C6 := Lib.hid (below_then C5.out hb6)
    clear P3 hS6 hb6 C5 O5 OB F5
    go_wp2_with fail
    refine (P4.out _ _ _ (HY.out _ C6.out)).mono ?_
    rintro e w7 ⟨V7, rfl, hb7, hS7⟩
    have O7 := Lib.hid (O6.out.below hb7)
    have OB7 := Lib.hid (OB6.out.below hb7)
    have T7 := Lib.hid hS7
    have U7 := Lib.hid (T6.out.below hb7)
    have F7 := Lib.hid (F6.out.call hb7)
    have C7 := Lib.hid (below_then C6.out hb7)
    clear P4 hS7 hb7 C6 O6 OB6 F6 T6
    obtain ⟨A4, q4, rfl, R4, -⟩ := OwnG.form (enc := prE) (fun _ => rfl) OB7.out
    obtain ⟨A5, q5, rfl, R5, -⟩ := OwnG.form (enc := prE) (fun _ => rfl) O7.out
    have FZ := Lib.hid (fun w' (h : Below w7.heap.size w7 w') => F7.out.call h)
    have K1 := Lib.hid (fun w' (h : Below w7.heap.size w7 w') => S1.out A4 A5 q4 q5 w' (R4.below h) (R5.below h) PS.out)
    have K2 := Lib.hid (fun w' (h : Below w7.heap.size w7 w') => S2.out V6 V7 w' (U7.out.below h) (T7.out.below h))
    have K3 := Lib.hid (fun w' (h : Below w7.heap.size w7 w') => S3.out w' y d (below_then F7.out.below h) (HY.out w' (below_then C7.out h)))
    clear R4 R5 S1 S2 S3 U7 T7 O7 OB7 HL HY C7 PS HC F3
    go_wp2_with fail
    refine wp_region_held_drew (S := fun w' => Below w7.heap.size w7 w') (by kernel_rfl) ((Below.refl _ _).drew) (fun hHeld => ?_)
    have BQ := Lib.hid ((Below.refl w7.heap.size w7).drew)
    refine wpAnyH_take (i := 0) (oi := ?oi0x1) (v := ?v0x1) ?hi0x1 (by kernel_rfl) (by kernel_rfl) (by kernel_rfl) ?hq0x1 ?hy0x1 hHeld ?rest0x1
    case hi0x1 => ((try simp only [List.getElem?_toArray, List.getElem?_cons_succ, List.getElem?_cons_zero]); (try rfl))
    case hq0x1 => exact fun _ _ _ h => h
    case hy0x1 =>
      refine' yieldsIf_load_mid ?_ 24 (.tmp 3) ?_ w.heap.size (0) ?_ (rlC u) _ ?_ Tryz.underlying24 ?_ info5
      · rfl
      · rfl
      · rfl
      · exact fun _ h => (FZ.out _ h).get 0 rfl
      · rfl
    try simp only [Act.put, List.setIfInBounds_toArray, List.set_cons_zero, List.set_cons_succ]
    refine wpAnyH_take (i := 2) (oi := ?oi2x2) (v := ?v2x2) ?hi2x2 (by kernel_rfl) (by kernel_rfl) (by kernel_rfl) ?hq2x2 ?hy2x2 hHeld ?rest2x2
    case hi2x2 => ((try simp only [List.getElem?_toArray, List.getElem?_cons_succ, List.getElem?_cons_zero]); (try rfl))
    case hq2x2 => exact fun _ _ _ h => h
    case hy2x2 =>
      refine' yieldsIf_load_mid ?_ 24 (.tmp 3) ?_ w.heap.size (0) ?_ (rlC u) _ ?_ Tryz.underlying24 ?_ info5
      · rfl
      · rfl
      · rfl
      · exact fun _ h => (FZ.out _ h).get 0 rfl
      · rfl
    try simp only [Act.put, List.setIfInBounds_toArray, List.set_cons_zero, List.set_cons_succ]
    refine wpAnyH_ready (rs := [1]) (by kernel_rfl) (by simp) ?_
    refine AllReadyH.cons rfl (fun K' hK => ?_) AllReadyH.nil
    clear hHeld
    go_simp
    refine (rule_any u _).mono ?_
    rintro e w8 ⟨rfl, hb⟩
    have BQ := Lib.hid (below_then BQ.out hb)
    clear hb
    refine hK.out _ _ (BQ.out) (fun hHeld => ?_)
    clear hK
    try simp only [Act.put, List.setIfInBounds_toArray, List.set_cons_zero, List.set_cons_succ]
    refine wpAnyH_ready (rs := [3]) (by kernel_rfl) (by simp) ?_
    refine AllReadyH.cons rfl (fun K' hK => ?_) AllReadyH.nil
    clear hHeld
    go_simp
    refine (rrule_any u _).mono ?_
    rintro e w9 ⟨rfl, hb⟩
    have BQ := Lib.hid (below_then BQ.out hb)
    clear hb
    refine hK.out _ _ (BQ.out) (fun hHeld => ?_)
    clear hK
    try simp only [Act.put, List.setIfInBounds_toArray, List.set_cons_zero, List.set_cons_succ]
    refine wpAnyH_take (i := 4) (oi := ?oi4x3) (v := ?v4x3) ?hi4x3 (by kernel_rfl) (by kernel_rfl) (by kernel_rfl) ?hq4x3 ?hy4x3 hHeld ?rest4x3
    case hi4x3 => ((try simp only [List.getElem?_toArray, List.getElem?_cons_succ, List.getElem?_cons_zero]); (try rfl))
    case hq4x3 => exact fun _ _ _ h => h
    case hy4x3 => exact Or.inl ⟨by rfl, by intro w hSw; clear hSw; go_simp; try with_reducible rfl⟩
    try simp only [Act.put, List.setIfInBounds_toArray, List.set_cons_zero, List.set_cons_succ]
    refine wpAnyH_take (i := 5) (oi := ?oi5x4) (v := ?v5x4) ?hi5x4 (by kernel_rfl) (by kernel_rfl) (by kernel_rfl) ?hq5x4 ?hy5x4 hHeld ?rest5x4
    case hi5x4 => ((try simp only [List.getElem?_toArray, List.getElem?_cons_succ, List.getElem?_cons_zero]); (try rfl))
    case hq5x4 => exact fun _ _ _ h => h
    case hy5x4 => exact Or.inl ⟨by rfl, by intro w hSw; clear hSw; go_simp; try with_reducible rfl⟩
    try simp only [Act.put, List.setIfInBounds_toArray, List.set_cons_zero, List.set_cons_succ]
    refine wpAnyH_take (i := 6) (oi := ?oi6x5) (v := ?v6x5) ?hi6x5 (by kernel_rfl) (by kernel_rfl) (by kernel_rfl) ?hq6x5 ?hy6x5 hHeld ?rest6x5
    case hi6x5 => ((try simp only [List.getElem?_toArray, List.getElem?_cons_succ, List.getElem?_cons_zero]); (try rfl))
    case hq6x5 => exact fun _ _ _ h => h
    case hy6x5 => exact Or.inl ⟨by rfl, by intro w hSw; clear hSw; go_simp; try with_reducible rfl⟩
    try simp only [Act.put, List.setIfInBounds_toArray, List.set_cons_zero, List.set_cons_succ]
    refine wpAnyH_take (i := 7) (oi := ?oi7x6) (v := ?v7x6) ?hi7x6 (by kernel_rfl) (by kernel_rfl) (by kernel_rfl) ?hq7x6 ?hy7x6 hHeld ?rest7x6
    case hi7x6 => ((try simp only [List.getElem?_toArray, List.getElem?_cons_succ, List.getElem?_cons_zero]); (try rfl))
    case hq7x6 => exact fun _ _ _ h => h
    case hy7x6 => exact Or.inl ⟨by rfl, by intro w hSw; clear hSw; go_simp; try with_reducible rfl⟩
    try simp only [Act.put, List.setIfInBounds_toArray, List.set_cons_zero, List.set_cons_succ]
    refine wpAnyH_ready (rs := [8]) (by kernel_rfl) (by simp) ?_
    refine AllReadyH.cons rfl (fun K' hK => ?_) AllReadyH.nil
    clear hHeld
    go_simp
    refine (K1.out _ BQ.out).mono ?_
    rintro e w10 ⟨rfl, hb⟩
    have BQ := Lib.hid (below_then BQ.out (drawn_below hb))
    clear hb
    refine hK.out _ _ (BQ.out) (fun hHeld => ?_)
    clear hK
    try simp only [Act.put, List.setIfInBounds_toArray, List.set_cons_zero, List.set_cons_succ]
    refine wpAnyH_take (i := 9) (oi := ?oi9x7) (v := ?v9x7) ?hi9x7 (by kernel_rfl) (by kernel_rfl) (by kernel_rfl) ?hq9x7 ?hy9x7 hHeld ?rest9x7
    case hi9x7 => ((try simp only [List.getElem?_toArray, List.getElem?_cons_succ, List.getElem?_cons_zero]); (try rfl))
    case hq9x7 => exact fun _ _ _ h => h
    case hy9x7 => exact Or.inl ⟨by rfl, by intro w hSw; clear hSw; go_simp; try with_reducible rfl⟩
    try simp only [Act.put, List.setIfInBounds_toArray, List.set_cons_zero, List.set_cons_succ]
    refine wpAnyH_take (i := 10) (oi := ?oi10x8) (v := ?v10x8) ?hi10x8 (by kernel_rfl) (by kernel_rfl) (by kernel_rfl) ?hq10x8 ?hy10x8 hHeld ?rest10x8
    case hi10x8 => ((try simp only [List.getElem?_toArray, List.getElem?_cons_succ, List.getElem?_cons_zero]); (try rfl))
    case hq10x8 => exact fun _ _ _ h => h
    case hy10x8 => exact Or.inl ⟨by rfl, by intro w hSw; clear hSw; go_simp; try with_reducible rfl⟩
    try simp only [Act.put, List.setIfInBounds_toArray, List.set_cons_zero, List.set_cons_succ]
    refine wpAnyH_take (i := 11) (oi := ?oi11x9) (v := ?v11x9) ?hi11x9 (by kernel_rfl) (by kernel_rfl) (by kernel_rfl) ?hq11x9 ?hy11x9 hHeld ?rest11x9
    case hi11x9 => ((try simp only [List.getElem?_toArray, List.getElem?_cons_succ, List.getElem?_cons_zero]); (try rfl))
    case hq11x9 => exact fun _ _ _ h => h
    case hy11x9 => exact Or.inl ⟨by rfl, by intro w hSw; clear hSw; go_simp; try with_reducible rfl⟩
    try simp only [Act.put, List.setIfInBounds_toArray, List.set_cons_zero, List.set_cons_succ]
    refine wpAnyH_take (i := 12) (oi := ?oi12x10) (v := ?v12x10) ?hi12x10 (by kernel_rfl) (by kernel_rfl) (by kernel_rfl) ?hq12x10 ?hy12x10 hHeld ?rest12x10
    case hi12x10 => ((try simp only [List.getElem?_toArray, List.getElem?_cons_succ, List.getElem?_cons_zero]); (try rfl))
    case hq12x10 => exact fun _ _ _ h => h
    case hy12x10 => exact Or.inl ⟨by rfl, by intro w hSw; clear hSw; go_simp; try with_reducible rfl⟩
    try simp only [Act.put, List.setIfInBounds_toArray, List.set_cons_zero, List.set_cons_succ]
    refine wpAnyH_take (i := 13) (oi := ?oi13x11) (v := ?v13x11) ?hi13x11 (by kernel_rfl) (by kernel_rfl) (by kernel_rfl) ?hq13x11 ?hy13x11 hHeld ?rest13x11
    case hi13x11 => ((try simp only [List.getElem?_toArray, List.getElem?_cons_succ, List.getElem?_cons_zero]); (try rfl))
    case hq13x11 => exact fun _ _ _ h => h
    case hy13x11 => exact Or.inl ⟨by rfl, by intro w hSw; clear hSw; go_simp; try with_reducible rfl⟩
    try simp only [Act.put, List.setIfInBounds_toArray, List.set_cons_zero, List.set_cons_succ]
    refine wpAnyH_take (i := 14) (oi := ?oi14x12) (v := ?v14x12) ?hi14x12 (by kernel_rfl) (by kernel_rfl) (by kernel_rfl) ?hq14x12 ?hy14x12 hHeld ?rest14x12
    case hi14x12 => ((try simp only [List.getElem?_toArray, List.getElem?_cons_succ, List.getElem?_cons_zero]); (try rfl))
    case hq14x12 => exact fun _ _ _ h => h
    case hy14x12 => exact Or.inl ⟨by rfl, by intro w hSw; clear hSw; go_simp; try with_reducible rfl⟩
    try simp only [Act.put, List.setIfInBounds_toArray, List.set_cons_zero, List.set_cons_succ]
    refine wpAnyH_take (i := 15) (oi := ?oi15x13) (v := ?v15x13) ?hi15x13 (by kernel_rfl) (by kernel_rfl) (by kernel_rfl) ?hq15x13 ?hy15x13 hHeld ?rest15x13
    case hi15x13 => ((try simp only [List.getElem?_toArray, List.getElem?_cons_succ, List.getElem?_cons_zero]); (try rfl))
    case hq15x13 => exact fun _ _ _ h => h
    case hy15x13 => exact Or.inl ⟨by rfl, by intro w hSw; clear hSw; go_simp; try with_reducible rfl⟩
    try simp only [Act.put, List.setIfInBounds_toArray, List.set_cons_zero, List.set_cons_succ]
    refine wpAnyH_take (i := 16) (oi := ?oi16x14) (v := ?v16x14) ?hi16x14 (by kernel_rfl) (by kernel_rfl) (by kernel_rfl) ?hq16x14 ?hy16x14 hHeld ?rest16x14
    case hi16x14 => ((try simp only [List.getElem?_toArray, List.getElem?_cons_succ, List.getElem?_cons_zero]); (try rfl))
    case hq16x14 => exact fun _ _ _ h => h
    case hy16x14 => exact Or.inl ⟨by rfl, by intro w hSw; clear hSw; go_simp; try with_reducible rfl⟩
    try simp only [Act.put, List.setIfInBounds_toArray, List.set_cons_zero, List.set_cons_succ]
    refine wpAnyH_take (i := 17) (oi := ?oi17x15) (v := ?v17x15) ?hi17x15 (by kernel_rfl) (by kernel_rfl) (by kernel_rfl) ?hq17x15 ?hy17x15 hHeld ?rest17x15
    case hi17x15 => ((try simp only [List.getElem?_toArray, List.getElem?_cons_succ, List.getElem?_cons_zero]); (try rfl))
    case hq17x15 => exact fun _ _ _ h => h
    case hy17x15 => exact Or.inl ⟨by rfl, by intro w hSw; clear hSw; go_simp; try with_reducible rfl⟩
    try simp only [Act.put, List.setIfInBounds_toArray, List.set_cons_zero, List.set_cons_succ]
    refine wpAnyH_ready (rs := [18]) (by kernel_rfl) (by simp) ?_
    refine AllReadyH.cons rfl (fun K' hK => ?_) AllReadyH.nil
    clear hHeld
    go_simp
    refine (K2.out _ BQ.out).mono ?_
    rintro e w11 ⟨rfl, hb⟩
    have BQ := Lib.hid (below_then BQ.out (drawn_below hb))
    clear hb
    refine hK.out _ _ (BQ.out) (fun hHeld => ?_)
    clear hK
    try simp only [Act.put, List.setIfInBounds_toArray, List.set_cons_zero, List.set_cons_succ]
    refine wpAnyH_take (i := 19) (oi := ?oi19x16) (v := ?v19x16) ?hi19x16 (by kernel_rfl) (by kernel_rfl) (by kernel_rfl) ?hq19x16 ?hy19x16 hHeld ?rest19x16
    case hi19x16 => ((try simp only [List.getElem?_toArray, List.getElem?_cons_succ, List.getElem?_cons_zero]); (try rfl))
    case hq19x16 => exact fun _ _ _ h => h
    case hy19x16 => exact Or.inl ⟨by rfl, by intro w hSw; clear hSw; go_simp; try with_reducible rfl⟩
    try simp only [Act.put, List.setIfInBounds_toArray, List.set_cons_zero, List.set_cons_succ]
    refine wpAnyH_take (i := 20) (oi := ?oi20x17) (v := ?v20x17) ?hi20x17 (by kernel_rfl) (by kernel_rfl) (by kernel_rfl) ?hq20x17 ?hy20x17 hHeld ?rest20x17
    case hi20x17 => ((try simp only [List.getElem?_toArray, List.getElem?_cons_succ, List.getElem?_cons_zero]); (try rfl))
    case hq20x17 => exact fun _ _ _ h => h
    case hy20x17 => exact Or.inl ⟨by rfl, by intro w hSw; clear hSw; go_simp; try with_reducible rfl⟩
    try simp only [Act.put, List.setIfInBounds_toArray, List.set_cons_zero, List.set_cons_succ]
    refine wpAnyH_take (i := 21) (oi := ?oi21x18) (v := ?v21x18) ?hi21x18 (by kernel_rfl) (by kernel_rfl) (by kernel_rfl) ?hq21x18 ?hy21x18 hHeld ?rest21x18
    case hi21x18 => ((try simp only [List.getElem?_toArray, List.getElem?_cons_succ, List.getElem?_cons_zero]); (try rfl))
    case hq21x18 => exact fun _ _ _ h => h
    case hy21x18 => exact Or.inl ⟨by rfl, by intro w hSw; clear hSw; go_simp; try with_reducible rfl⟩
    try simp only [Act.put, List.setIfInBounds_toArray, List.set_cons_zero, List.set_cons_succ]
    refine wpAnyH_take (i := 22) (oi := ?oi22x19) (v := ?v22x19) ?hi22x19 (by kernel_rfl) (by kernel_rfl) (by kernel_rfl) ?hq22x19 ?hy22x19 hHeld ?rest22x19
    case hi22x19 => ((try simp only [List.getElem?_toArray, List.getElem?_cons_succ, List.getElem?_cons_zero]); (try rfl))
    case hq22x19 => exact fun _ _ _ h => h
    case hy22x19 => exact Or.inl ⟨by rfl, by intro w hSw; clear hSw; go_simp; try with_reducible rfl⟩
    try simp only [Act.put, List.setIfInBounds_toArray, List.set_cons_zero, List.set_cons_succ]
    refine wpAnyH_take (i := 23) (oi := ?oi23x20) (v := ?v23x20) ?hi23x20 (by kernel_rfl) (by kernel_rfl) (by kernel_rfl) ?hq23x20 ?hy23x20 hHeld ?rest23x20
    case hi23x20 => ((try simp only [List.getElem?_toArray, List.getElem?_cons_succ, List.getElem?_cons_zero]); (try rfl))
    case hq23x20 => exact fun _ _ _ h => h
    case hy23x20 => exact Or.inl ⟨by rfl, by intro w hSw; clear hSw; go_simp; try with_reducible rfl⟩
    try simp only [Act.put, List.setIfInBounds_toArray, List.set_cons_zero, List.set_cons_succ]
    refine wpAnyH_take (i := 24) (oi := ?oi24x21) (v := ?v24x21) ?hi24x21 (by kernel_rfl) (by kernel_rfl) (by kernel_rfl) ?hq24x21 ?hy24x21 hHeld ?rest24x21
    case hi24x21 => ((try simp only [List.getElem?_toArray, List.getElem?_cons_succ, List.getElem?_cons_zero]); (try rfl))
    case hq24x21 => exact fun _ _ _ h => h
    case hy24x21 => exact Or.inl ⟨by rfl, by intro w hSw; clear hSw; go_simp; try with_reducible rfl⟩
    try simp only [Act.put, List.setIfInBounds_toArray, List.set_cons_zero, List.set_cons_succ]
    refine wpAnyH_take (i := 25) (oi := ?oi25x22) (v := ?v25x22) ?hi25x22 (by kernel_rfl) (by kernel_rfl) (by kernel_rfl) ?hq25x22 ?hy25x22 hHeld ?rest25x22
    case hi25x22 => ((try simp only [List.getElem?_toArray, List.getElem?_cons_succ, List.getElem?_cons_zero]); (try rfl))
    case hq25x22 => exact fun _ _ _ h => h
    case hy25x22 => exact Or.inl ⟨by rfl, by intro w hSw; clear hSw; go_simp; try with_reducible rfl⟩
    try simp only [Act.put, List.setIfInBounds_toArray, List.set_cons_zero, List.set_cons_succ]
    refine wpAnyH_take (i := 26) (oi := ?oi26x23) (v := ?v26x23) ?hi26x23 (by kernel_rfl) (by kernel_rfl) (by kernel_rfl) ?hq26x23 ?hy26x23 hHeld ?rest26x23
    case hi26x23 => ((try simp only [List.getElem?_toArray, List.getElem?_cons_succ, List.getElem?_cons_zero]); (try rfl))
    case hq26x23 => exact fun _ _ _ h => h
    case hy26x23 => exact Or.inl ⟨by rfl, by intro w hSw; clear hSw; go_simp; try with_reducible rfl⟩
    try simp only [Act.put, List.setIfInBounds_toArray, List.set_cons_zero, List.set_cons_succ]
    refine wpAnyH_take (i := 27) (oi := ?oi27x24) (v := ?v27x24) ?hi27x24 (by kernel_rfl) (by kernel_rfl) (by kernel_rfl) ?hq27x24 ?hy27x24 hHeld ?rest27x24
    case hi27x24 => ((try simp only [List.getElem?_toArray, List.getElem?_cons_succ, List.getElem?_cons_zero]); (try rfl))
    case hq27x24 => exact fun _ _ _ h => h
    case hy27x24 => exact Or.inl ⟨by rfl, by intro w hSw; clear hSw; go_simp; try with_reducible rfl⟩
    try simp only [Act.put, List.setIfInBounds_toArray, List.set_cons_zero, List.set_cons_succ]
    refine wpAnyH_ready (rs := [28]) (by kernel_rfl) (by simp) ?_
    refine AllReadyH.cons rfl (fun K' hK => ?_) AllReadyH.nil
    clear hHeld
    go_simp
    refine (K3.out _ BQ.out).mono ?_
    rintro e w12 ⟨rfl, hb⟩
    have BQ := Lib.hid (below_then BQ.out hb)
    clear hb
    refine hK.out _ _ (BQ.out) (fun hHeld => ?_)
    clear hK
    try simp only [Act.put, List.setIfInBounds_toArray, List.set_cons_zero, List.set_cons_succ]
    refine wpAnyH_take (i := 29) (oi := ?oi29x25) (v := ?v29x25) ?hi29x25 (by kernel_rfl) (by kernel_rfl) (by kernel_rfl) ?hq29x25 ?hy29x25 hHeld ?rest29x25
    case hi29x25 => ((try simp only [List.getElem?_toArray, List.getElem?_cons_succ, List.getElem?_cons_zero]); (try rfl))
    case hq29x25 => exact fun _ _ _ h => h
    case hy29x25 => exact Or.inl ⟨by rfl, by intro w hSw; clear hSw; go_simp; try with_reducible rfl⟩
    try simp only [Act.put, List.setIfInBounds_toArray, List.set_cons_zero, List.set_cons_succ]
    refine wpAnyH_take (i := 30) (oi := ?oi30x26) (v := ?v30x26) ?hi30x26 (by kernel_rfl) (by kernel_rfl) (by kernel_rfl) ?hq30x26 ?hy30x26 hHeld ?rest30x26
    case hi30x26 => ((try simp only [List.getElem?_toArray, List.getElem?_cons_succ, List.getElem?_cons_zero]); (try rfl))
    case hq30x26 => exact fun _ _ _ h => h
    case hy30x26 => exact Or.inl ⟨by rfl, by intro w hSw; clear hSw; go_simp; try with_reducible rfl⟩
    try simp only [Act.put, List.setIfInBounds_toArray, List.set_cons_zero, List.set_cons_succ]
    refine wpAnyH_done (by kernel_rfl) ?_ _
    clear hHeld
    go_wp2_with fail
    exact bodyPost_ret (results_tmp rfl _ _ _) rfl ⟨rfl, below_then F7.out.below BQ.out⟩
  · first
    | (obtain ⟨e1, e2⟩ := HC.out rfl; subst e1 e2; rw [List.length_nil]; rw [List.length_nil] at P1 GR P3 S3)
    | skip
    go_enter Tryz.func3, Tryz.ntmps3
    go_wp2_with (first | (go_at_call 4; refine GR.out.mono ?_; rintro e w1 ⟨rfl, rfl⟩; clear GR) | (at_builtin; refine wp_copy0 _ rfl (.tmp 16) (.tmp 17) rfl (congrArg (fun n => Value.slice (some ⟨n, 0, none⟩) 0 0) (World.size_alloc w _).symm) rfl ?_; intro v' w3 hO hb3; have F3 := F0.out.call hb3; have c0 := F3.cell 0 0 rfl rfl; have c1 := F3.cell 0 1 rfl rfl; have c2 := F3.cell 0 2 rfl rfl; have c3 := F3.cell 0 3 rfl rfl; have c4 := F3.cell 0 4 rfl rfl; have F3 := Lib.hid F3) | (at_builtin; refine wp_copy _ rfl (.tmp 16) (.tmp 17) rfl l ad cap (congrArg (fun n => Value.slice (some ⟨n, 0, none⟩) 0 0) (World.size_alloc w _).symm) rfl (HL.out _ F0.out.below) (by have := hm.out; omega) ?_; intro v' w3 hO hb3; have F3 := F0.out.call hb3; have c0 := F3.cell 0 0 rfl rfl; have c1 := F3.cell 0 1 rfl rfl; have c2 := F3.cell 0 2 rfl rfl; have c3 := F3.cell 0 3 rfl rfl; have c4 := F3.cell 0 4 rfl rfl; have F3 := Lib.hid F3))
    obtain ⟨y, d, rfl, hy⟩ := slV_of hO.1
    have HY := Lib.hid (fun w' (h : Below w3.heap.size w3 w') => hy.below h)
    clear hO hb3 hy c0 c1 c2 c3 c4
    first | rw [List.length_nil] at * | skip
    refine (P1.out _ F3.out.below).mono ?_
    rintro e w4 ⟨V4, rfl, hO4, hb4⟩
    have O4 := Lib.hid hO4
    have F4 := F3.out.call hb4
    have c0 := F4.cell 0 0 rfl rfl
    have c1 := F4.cell 0 1 rfl rfl
    have c2 := F4.cell 0 2 rfl rfl
    have c3 := F4.cell 0 3 rfl rfl
    have c4 := F4.cell 0 4 rfl rfl
    have F4 := Lib.hid F4
    have C4 := Lib.hid hb4
    clear P1 hO4 hb4
    go_wp2_with fail
    refine (P2.out _ _ _ (HY.out _ C4.out)).mono ?_
    rintro e w5 ⟨V5, rfl, hO5, hb5⟩
    have O5 := Lib.hid hO5
    have OB := Lib.hid (O4.out.below hb5)
    have F5 := F4.out.call hb5
    have c0 := F5.cell 0 0 rfl rfl
    have c1 := F5.cell 0 1 rfl rfl
    have c2 := F5.cell 0 2 rfl rfl
    have c3 := F5.cell 0 3 rfl rfl
    have c4 := F5.cell 0 4 rfl rfl
    have F5 := Lib.hid F5
    have C5 := Lib.hid (below_then C4.out hb5)
    clear P2 hO5 hb5 C4 O4 F4
    go_wp2_with fail
    refine (P3.out _ F5.out.below).mono ?_
    rintro e w6 ⟨V6, rfl, hb6, hS6⟩
    have O6 := Lib.hid (O5.out.below hb6)
    have OB6 := Lib.hid (OB.out.below hb6)
    have T6 := Lib.hid hS6
    have F6 := F5.out.call hb6
    have c0 := F6.cell 0 0 rfl rfl
    have c1 := F6.cell 0 1 rfl rfl
    have c2 := F6.cell 0 2 rfl rfl
    have c3 := F6.cell 0 3 rfl rfl
    have c4 := F6.cell 0 4 rfl rfl
    have F6 := Lib.hid F6
    have C6 := Lib.hid (below_then C5.out hb6)
    clear P3 hS6 hb6 C5 O5 OB F5
    go_wp2_with fail
    refine (P4.out _ _ _ (HY.out _ C6.out)).mono ?_
    rintro e w7 ⟨V7, rfl, hb7, hS7⟩
    have O7 := Lib.hid (O6.out.below hb7)
    have OB7 := Lib.hid (OB6.out.below hb7)
    have T7 := Lib.hid hS7
    have U7 := Lib.hid (T6.out.below hb7)
    have F7 := Lib.hid (F6.out.call hb7)
    have C7 := Lib.hid (below_then C6.out hb7)
    clear P4 hS7 hb7 C6 O6 OB6 F6 T6
    obtain ⟨A4, q4, rfl, R4, -⟩ := OwnG.form (enc := prE) (fun _ => rfl) OB7.out
    obtain ⟨A5, q5, rfl, R5, -⟩ := OwnG.form (enc := prE) (fun _ => rfl) O7.out
    have FZ := Lib.hid (fun w' (h : Below w7.heap.size w7 w') => F7.out.call h)
    have K1 := Lib.hid (fun w' (h : Below w7.heap.size w7 w') => S1.out A4 A5 q4 q5 w' (R4.below h) (R5.below h) PS.out)
    have K2 := Lib.hid (fun w' (h : Below w7.heap.size w7 w') => S2.out V6 V7 w' (U7.out.below h) (T7.out.below h))
    have K3 := Lib.hid (fun w' (h : Below w7.heap.size w7 w') => S3.out w' y d (below_then F7.out.below h) (HY.out w' (below_then C7.out h)))
    clear R4 R5 S1 S2 S3 U7 T7 O7 OB7 HL HY C7 PS HC F3
    go_wp2_with fail
    refine wp_region_held_drew (S := fun w' => Below w7.heap.size w7 w') (by kernel_rfl) ((Below.refl _ _).drew) (fun hHeld => ?_)
    have BQ := Lib.hid ((Below.refl w7.heap.size w7).drew)
    refine wpAnyH_take (i := 0) (oi := ?oi0x27) (v := ?v0x27) ?hi0x27 (by kernel_rfl) (by kernel_rfl) (by kernel_rfl) ?hq0x27 ?hy0x27 hHeld ?rest0x27
    case hi0x27 => ((try simp only [List.getElem?_toArray, List.getElem?_cons_succ, List.getElem?_cons_zero]); (try rfl))
    case hq0x27 => exact fun _ _ _ h => h
    case hy0x27 =>
      refine' yieldsIf_load_mid ?_ 24 (.tmp 3) ?_ w.heap.size (0) ?_ (rlC u) _ ?_ Tryz.underlying24 ?_ info5
      · rfl
      · rfl
      · rfl
      · exact fun _ h => (FZ.out _ h).get 0 rfl
      · rfl
    try simp only [Act.put, List.setIfInBounds_toArray, List.set_cons_zero, List.set_cons_succ]
    refine wpAnyH_take (i := 2) (oi := ?oi2x28) (v := ?v2x28) ?hi2x28 (by kernel_rfl) (by kernel_rfl) (by kernel_rfl) ?hq2x28 ?hy2x28 hHeld ?rest2x28
    case hi2x28 => ((try simp only [List.getElem?_toArray, List.getElem?_cons_succ, List.getElem?_cons_zero]); (try rfl))
    case hq2x28 => exact fun _ _ _ h => h
    case hy2x28 =>
      refine' yieldsIf_load_mid ?_ 24 (.tmp 3) ?_ w.heap.size (0) ?_ (rlC u) _ ?_ Tryz.underlying24 ?_ info5
      · rfl
      · rfl
      · rfl
      · exact fun _ h => (FZ.out _ h).get 0 rfl
      · rfl
    try simp only [Act.put, List.setIfInBounds_toArray, List.set_cons_zero, List.set_cons_succ]
    refine wpAnyH_ready (rs := [1]) (by kernel_rfl) (by simp) ?_
    refine AllReadyH.cons rfl (fun K' hK => ?_) AllReadyH.nil
    clear hHeld
    go_simp
    refine (rule_any u _).mono ?_
    rintro e w8 ⟨rfl, hb⟩
    have BQ := Lib.hid (below_then BQ.out hb)
    clear hb
    refine hK.out _ _ (BQ.out) (fun hHeld => ?_)
    clear hK
    try simp only [Act.put, List.setIfInBounds_toArray, List.set_cons_zero, List.set_cons_succ]
    refine wpAnyH_ready (rs := [3]) (by kernel_rfl) (by simp) ?_
    refine AllReadyH.cons rfl (fun K' hK => ?_) AllReadyH.nil
    clear hHeld
    go_simp
    refine (rrule_any u _).mono ?_
    rintro e w9 ⟨rfl, hb⟩
    have BQ := Lib.hid (below_then BQ.out hb)
    clear hb
    refine hK.out _ _ (BQ.out) (fun hHeld => ?_)
    clear hK
    try simp only [Act.put, List.setIfInBounds_toArray, List.set_cons_zero, List.set_cons_succ]
    refine wpAnyH_take (i := 4) (oi := ?oi4x29) (v := ?v4x29) ?hi4x29 (by kernel_rfl) (by kernel_rfl) (by kernel_rfl) ?hq4x29 ?hy4x29 hHeld ?rest4x29
    case hi4x29 => ((try simp only [List.getElem?_toArray, List.getElem?_cons_succ, List.getElem?_cons_zero]); (try rfl))
    case hq4x29 => exact fun _ _ _ h => h
    case hy4x29 => exact Or.inl ⟨by rfl, by intro w hSw; clear hSw; go_simp; try with_reducible rfl⟩
    try simp only [Act.put, List.setIfInBounds_toArray, List.set_cons_zero, List.set_cons_succ]
    refine wpAnyH_take (i := 5) (oi := ?oi5x30) (v := ?v5x30) ?hi5x30 (by kernel_rfl) (by kernel_rfl) (by kernel_rfl) ?hq5x30 ?hy5x30 hHeld ?rest5x30
    case hi5x30 => ((try simp only [List.getElem?_toArray, List.getElem?_cons_succ, List.getElem?_cons_zero]); (try rfl))
    case hq5x30 => exact fun _ _ _ h => h
    case hy5x30 => exact Or.inl ⟨by rfl, by intro w hSw; clear hSw; go_simp; try with_reducible rfl⟩
    try simp only [Act.put, List.setIfInBounds_toArray, List.set_cons_zero, List.set_cons_succ]
    refine wpAnyH_take (i := 6) (oi := ?oi6x31) (v := ?v6x31) ?hi6x31 (by kernel_rfl) (by kernel_rfl) (by kernel_rfl) ?hq6x31 ?hy6x31 hHeld ?rest6x31
    case hi6x31 => ((try simp only [List.getElem?_toArray, List.getElem?_cons_succ, List.getElem?_cons_zero]); (try rfl))
    case hq6x31 => exact fun _ _ _ h => h
    case hy6x31 => exact Or.inl ⟨by rfl, by intro w hSw; clear hSw; go_simp; try with_reducible rfl⟩
    try simp only [Act.put, List.setIfInBounds_toArray, List.set_cons_zero, List.set_cons_succ]
    refine wpAnyH_take (i := 7) (oi := ?oi7x32) (v := ?v7x32) ?hi7x32 (by kernel_rfl) (by kernel_rfl) (by kernel_rfl) ?hq7x32 ?hy7x32 hHeld ?rest7x32
    case hi7x32 => ((try simp only [List.getElem?_toArray, List.getElem?_cons_succ, List.getElem?_cons_zero]); (try rfl))
    case hq7x32 => exact fun _ _ _ h => h
    case hy7x32 => exact Or.inl ⟨by rfl, by intro w hSw; clear hSw; go_simp; try with_reducible rfl⟩
    try simp only [Act.put, List.setIfInBounds_toArray, List.set_cons_zero, List.set_cons_succ]
    refine wpAnyH_ready (rs := [8]) (by kernel_rfl) (by simp) ?_
    refine AllReadyH.cons rfl (fun K' hK => ?_) AllReadyH.nil
    clear hHeld
    go_simp
    refine (K1.out _ BQ.out).mono ?_
    rintro e w10 ⟨rfl, hb⟩
    have BQ := Lib.hid (below_then BQ.out (drawn_below hb))
    clear hb
    refine hK.out _ _ (BQ.out) (fun hHeld => ?_)
    clear hK
    try simp only [Act.put, List.setIfInBounds_toArray, List.set_cons_zero, List.set_cons_succ]
    refine wpAnyH_take (i := 9) (oi := ?oi9x33) (v := ?v9x33) ?hi9x33 (by kernel_rfl) (by kernel_rfl) (by kernel_rfl) ?hq9x33 ?hy9x33 hHeld ?rest9x33
    case hi9x33 => ((try simp only [List.getElem?_toArray, List.getElem?_cons_succ, List.getElem?_cons_zero]); (try rfl))
    case hq9x33 => exact fun _ _ _ h => h
    case hy9x33 => exact Or.inl ⟨by rfl, by intro w hSw; clear hSw; go_simp; try with_reducible rfl⟩
    try simp only [Act.put, List.setIfInBounds_toArray, List.set_cons_zero, List.set_cons_succ]
    refine wpAnyH_take (i := 10) (oi := ?oi10x34) (v := ?v10x34) ?hi10x34 (by kernel_rfl) (by kernel_rfl) (by kernel_rfl) ?hq10x34 ?hy10x34 hHeld ?rest10x34
    case hi10x34 => ((try simp only [List.getElem?_toArray, List.getElem?_cons_succ, List.getElem?_cons_zero]); (try rfl))
    case hq10x34 => exact fun _ _ _ h => h
    case hy10x34 => exact Or.inl ⟨by rfl, by intro w hSw; clear hSw; go_simp; try with_reducible rfl⟩
    try simp only [Act.put, List.setIfInBounds_toArray, List.set_cons_zero, List.set_cons_succ]
    refine wpAnyH_take (i := 11) (oi := ?oi11x35) (v := ?v11x35) ?hi11x35 (by kernel_rfl) (by kernel_rfl) (by kernel_rfl) ?hq11x35 ?hy11x35 hHeld ?rest11x35
    case hi11x35 => ((try simp only [List.getElem?_toArray, List.getElem?_cons_succ, List.getElem?_cons_zero]); (try rfl))
    case hq11x35 => exact fun _ _ _ h => h
    case hy11x35 => exact Or.inl ⟨by rfl, by intro w hSw; clear hSw; go_simp; try with_reducible rfl⟩
    try simp only [Act.put, List.setIfInBounds_toArray, List.set_cons_zero, List.set_cons_succ]
    refine wpAnyH_take (i := 12) (oi := ?oi12x36) (v := ?v12x36) ?hi12x36 (by kernel_rfl) (by kernel_rfl) (by kernel_rfl) ?hq12x36 ?hy12x36 hHeld ?rest12x36
    case hi12x36 => ((try simp only [List.getElem?_toArray, List.getElem?_cons_succ, List.getElem?_cons_zero]); (try rfl))
    case hq12x36 => exact fun _ _ _ h => h
    case hy12x36 => exact Or.inl ⟨by rfl, by intro w hSw; clear hSw; go_simp; try with_reducible rfl⟩
    try simp only [Act.put, List.setIfInBounds_toArray, List.set_cons_zero, List.set_cons_succ]
    refine wpAnyH_take (i := 13) (oi := ?oi13x37) (v := ?v13x37) ?hi13x37 (by kernel_rfl) (by kernel_rfl) (by kernel_rfl) ?hq13x37 ?hy13x37 hHeld ?rest13x37
    case hi13x37 => ((try simp only [List.getElem?_toArray, List.getElem?_cons_succ, List.getElem?_cons_zero]); (try rfl))
    case hq13x37 => exact fun _ _ _ h => h
    case hy13x37 => exact Or.inl ⟨by rfl, by intro w hSw; clear hSw; go_simp; try with_reducible rfl⟩
    try simp only [Act.put, List.setIfInBounds_toArray, List.set_cons_zero, List.set_cons_succ]
    refine wpAnyH_take (i := 14) (oi := ?oi14x38) (v := ?v14x38) ?hi14x38 (by kernel_rfl) (by kernel_rfl) (by kernel_rfl) ?hq14x38 ?hy14x38 hHeld ?rest14x38
    case hi14x38 => ((try simp only [List.getElem?_toArray, List.getElem?_cons_succ, List.getElem?_cons_zero]); (try rfl))
    case hq14x38 => exact fun _ _ _ h => h
    case hy14x38 => exact Or.inl ⟨by rfl, by intro w hSw; clear hSw; go_simp; try with_reducible rfl⟩
    try simp only [Act.put, List.setIfInBounds_toArray, List.set_cons_zero, List.set_cons_succ]
    refine wpAnyH_take (i := 15) (oi := ?oi15x39) (v := ?v15x39) ?hi15x39 (by kernel_rfl) (by kernel_rfl) (by kernel_rfl) ?hq15x39 ?hy15x39 hHeld ?rest15x39
    case hi15x39 => ((try simp only [List.getElem?_toArray, List.getElem?_cons_succ, List.getElem?_cons_zero]); (try rfl))
    case hq15x39 => exact fun _ _ _ h => h
    case hy15x39 => exact Or.inl ⟨by rfl, by intro w hSw; clear hSw; go_simp; try with_reducible rfl⟩
    try simp only [Act.put, List.setIfInBounds_toArray, List.set_cons_zero, List.set_cons_succ]
    refine wpAnyH_take (i := 16) (oi := ?oi16x40) (v := ?v16x40) ?hi16x40 (by kernel_rfl) (by kernel_rfl) (by kernel_rfl) ?hq16x40 ?hy16x40 hHeld ?rest16x40
    case hi16x40 => ((try simp only [List.getElem?_toArray, List.getElem?_cons_succ, List.getElem?_cons_zero]); (try rfl))
    case hq16x40 => exact fun _ _ _ h => h
    case hy16x40 => exact Or.inl ⟨by rfl, by intro w hSw; clear hSw; go_simp; try with_reducible rfl⟩
    try simp only [Act.put, List.setIfInBounds_toArray, List.set_cons_zero, List.set_cons_succ]
    refine wpAnyH_take (i := 17) (oi := ?oi17x41) (v := ?v17x41) ?hi17x41 (by kernel_rfl) (by kernel_rfl) (by kernel_rfl) ?hq17x41 ?hy17x41 hHeld ?rest17x41
    case hi17x41 => ((try simp only [List.getElem?_toArray, List.getElem?_cons_succ, List.getElem?_cons_zero]); (try rfl))
    case hq17x41 => exact fun _ _ _ h => h
    case hy17x41 => exact Or.inl ⟨by rfl, by intro w hSw; clear hSw; go_simp; try with_reducible rfl⟩
    try simp only [Act.put, List.setIfInBounds_toArray, List.set_cons_zero, List.set_cons_succ]
    refine wpAnyH_ready (rs := [18]) (by kernel_rfl) (by simp) ?_
    refine AllReadyH.cons rfl (fun K' hK => ?_) AllReadyH.nil
    clear hHeld
    go_simp
    refine (K2.out _ BQ.out).mono ?_
    rintro e w11 ⟨rfl, hb⟩
    have BQ := Lib.hid (below_then BQ.out (drawn_below hb))
    clear hb
    refine hK.out _ _ (BQ.out) (fun hHeld => ?_)
    clear hK
    try simp only [Act.put, List.setIfInBounds_toArray, List.set_cons_zero, List.set_cons_succ]
    refine wpAnyH_take (i := 19) (oi := ?oi19x42) (v := ?v19x42) ?hi19x42 (by kernel_rfl) (by kernel_rfl) (by kernel_rfl) ?hq19x42 ?hy19x42 hHeld ?rest19x42
    case hi19x42 => ((try simp only [List.getElem?_toArray, List.getElem?_cons_succ, List.getElem?_cons_zero]); (try rfl))
    case hq19x42 => exact fun _ _ _ h => h
    case hy19x42 => exact Or.inl ⟨by rfl, by intro w hSw; clear hSw; go_simp; try with_reducible rfl⟩
    try simp only [Act.put, List.setIfInBounds_toArray, List.set_cons_zero, List.set_cons_succ]
    refine wpAnyH_take (i := 20) (oi := ?oi20x43) (v := ?v20x43) ?hi20x43 (by kernel_rfl) (by kernel_rfl) (by kernel_rfl) ?hq20x43 ?hy20x43 hHeld ?rest20x43
    case hi20x43 => ((try simp only [List.getElem?_toArray, List.getElem?_cons_succ, List.getElem?_cons_zero]); (try rfl))
    case hq20x43 => exact fun _ _ _ h => h
    case hy20x43 => exact Or.inl ⟨by rfl, by intro w hSw; clear hSw; go_simp; try with_reducible rfl⟩
    try simp only [Act.put, List.setIfInBounds_toArray, List.set_cons_zero, List.set_cons_succ]
    refine wpAnyH_take (i := 21) (oi := ?oi21x44) (v := ?v21x44) ?hi21x44 (by kernel_rfl) (by kernel_rfl) (by kernel_rfl) ?hq21x44 ?hy21x44 hHeld ?rest21x44
    case hi21x44 => ((try simp only [List.getElem?_toArray, List.getElem?_cons_succ, List.getElem?_cons_zero]); (try rfl))
    case hq21x44 => exact fun _ _ _ h => h
    case hy21x44 => exact Or.inl ⟨by rfl, by intro w hSw; clear hSw; go_simp; try with_reducible rfl⟩
    try simp only [Act.put, List.setIfInBounds_toArray, List.set_cons_zero, List.set_cons_succ]
    refine wpAnyH_take (i := 22) (oi := ?oi22x45) (v := ?v22x45) ?hi22x45 (by kernel_rfl) (by kernel_rfl) (by kernel_rfl) ?hq22x45 ?hy22x45 hHeld ?rest22x45
    case hi22x45 => ((try simp only [List.getElem?_toArray, List.getElem?_cons_succ, List.getElem?_cons_zero]); (try rfl))
    case hq22x45 => exact fun _ _ _ h => h
    case hy22x45 => exact Or.inl ⟨by rfl, by intro w hSw; clear hSw; go_simp; try with_reducible rfl⟩
    try simp only [Act.put, List.setIfInBounds_toArray, List.set_cons_zero, List.set_cons_succ]
    refine wpAnyH_take (i := 23) (oi := ?oi23x46) (v := ?v23x46) ?hi23x46 (by kernel_rfl) (by kernel_rfl) (by kernel_rfl) ?hq23x46 ?hy23x46 hHeld ?rest23x46
    case hi23x46 => ((try simp only [List.getElem?_toArray, List.getElem?_cons_succ, List.getElem?_cons_zero]); (try rfl))
    case hq23x46 => exact fun _ _ _ h => h
    case hy23x46 => exact Or.inl ⟨by rfl, by intro w hSw; clear hSw; go_simp; try with_reducible rfl⟩
    try simp only [Act.put, List.setIfInBounds_toArray, List.set_cons_zero, List.set_cons_succ]
    refine wpAnyH_take (i := 24) (oi := ?oi24x47) (v := ?v24x47) ?hi24x47 (by kernel_rfl) (by kernel_rfl) (by kernel_rfl) ?hq24x47 ?hy24x47 hHeld ?rest24x47
    case hi24x47 => ((try simp only [List.getElem?_toArray, List.getElem?_cons_succ, List.getElem?_cons_zero]); (try rfl))
    case hq24x47 => exact fun _ _ _ h => h
    case hy24x47 => exact Or.inl ⟨by rfl, by intro w hSw; clear hSw; go_simp; try with_reducible rfl⟩
    try simp only [Act.put, List.setIfInBounds_toArray, List.set_cons_zero, List.set_cons_succ]
    refine wpAnyH_take (i := 25) (oi := ?oi25x48) (v := ?v25x48) ?hi25x48 (by kernel_rfl) (by kernel_rfl) (by kernel_rfl) ?hq25x48 ?hy25x48 hHeld ?rest25x48
    case hi25x48 => ((try simp only [List.getElem?_toArray, List.getElem?_cons_succ, List.getElem?_cons_zero]); (try rfl))
    case hq25x48 => exact fun _ _ _ h => h
    case hy25x48 => exact Or.inl ⟨by rfl, by intro w hSw; clear hSw; go_simp; try with_reducible rfl⟩
    try simp only [Act.put, List.setIfInBounds_toArray, List.set_cons_zero, List.set_cons_succ]
    refine wpAnyH_take (i := 26) (oi := ?oi26x49) (v := ?v26x49) ?hi26x49 (by kernel_rfl) (by kernel_rfl) (by kernel_rfl) ?hq26x49 ?hy26x49 hHeld ?rest26x49
    case hi26x49 => ((try simp only [List.getElem?_toArray, List.getElem?_cons_succ, List.getElem?_cons_zero]); (try rfl))
    case hq26x49 => exact fun _ _ _ h => h
    case hy26x49 => exact Or.inl ⟨by rfl, by intro w hSw; clear hSw; go_simp; try with_reducible rfl⟩
    try simp only [Act.put, List.setIfInBounds_toArray, List.set_cons_zero, List.set_cons_succ]
    refine wpAnyH_take (i := 27) (oi := ?oi27x50) (v := ?v27x50) ?hi27x50 (by kernel_rfl) (by kernel_rfl) (by kernel_rfl) ?hq27x50 ?hy27x50 hHeld ?rest27x50
    case hi27x50 => ((try simp only [List.getElem?_toArray, List.getElem?_cons_succ, List.getElem?_cons_zero]); (try rfl))
    case hq27x50 => exact fun _ _ _ h => h
    case hy27x50 => exact Or.inl ⟨by rfl, by intro w hSw; clear hSw; go_simp; try with_reducible rfl⟩
    try simp only [Act.put, List.setIfInBounds_toArray, List.set_cons_zero, List.set_cons_succ]
    refine wpAnyH_ready (rs := [28]) (by kernel_rfl) (by simp) ?_
    refine AllReadyH.cons rfl (fun K' hK => ?_) AllReadyH.nil
    clear hHeld
    go_simp
    refine (K3.out _ BQ.out).mono ?_
    rintro e w12 ⟨rfl, hb⟩
    have BQ := Lib.hid (below_then BQ.out hb)
    clear hb
    refine hK.out _ _ (BQ.out) (fun hHeld => ?_)
    clear hK
    try simp only [Act.put, List.setIfInBounds_toArray, List.set_cons_zero, List.set_cons_succ]
    refine wpAnyH_take (i := 29) (oi := ?oi29x51) (v := ?v29x51) ?hi29x51 (by kernel_rfl) (by kernel_rfl) (by kernel_rfl) ?hq29x51 ?hy29x51 hHeld ?rest29x51
    case hi29x51 => ((try simp only [List.getElem?_toArray, List.getElem?_cons_succ, List.getElem?_cons_zero]); (try rfl))
    case hq29x51 => exact fun _ _ _ h => h
    case hy29x51 => exact Or.inl ⟨by rfl, by intro w hSw; clear hSw; go_simp; try with_reducible rfl⟩
    try simp only [Act.put, List.setIfInBounds_toArray, List.set_cons_zero, List.set_cons_succ]
    refine wpAnyH_take (i := 30) (oi := ?oi30x52) (v := ?v30x52) ?hi30x52 (by kernel_rfl) (by kernel_rfl) (by kernel_rfl) ?hq30x52 ?hy30x52 hHeld ?rest30x52
    case hi30x52 => ((try simp only [List.getElem?_toArray, List.getElem?_cons_succ, List.getElem?_cons_zero]); (try rfl))
    case hq30x52 => exact fun _ _ _ h => h
    case hy30x52 => exact Or.inl ⟨by rfl, by intro w hSw; clear hSw; go_simp; try with_reducible rfl⟩
    try simp only [Act.put, List.setIfInBounds_toArray, List.set_cons_zero, List.set_cons_succ]
    refine wpAnyH_done (by kernel_rfl) ?_ _
    clear hHeld
    go_wp2_with fail
    exact bodyPost_ret (results_tmp rfl _ _ _) rfl ⟨rfl, below_then F7.out.below BQ.out⟩
end Tw
end Go.Proofs.YtjgcbeihgeaimaaGreatDoor
/-
  An argument that is a list of observations, opened.
-/
namespace Go.Proofs.YtjgcbeihgeaimaaGreatDoor
namespace Ow
open Go.RowKit Lw Go.Proofs.YtjgcbeihgeaimaaGreatDoor.Op Go.ChangeShapes Go.WideShapes Go.Deep

section
variable {H : Type} {enc : TypeId × Value → H} {P : Program} {w : World} {base : Nat} {spare : Nat → Bool} {held : Bool}
theorem elem_fields {e : TypeId} {fs : Array Field} {fuel : Nat} {a : Addr} {cs : List Value} {x : DataW H × List MemPlace} (he : P.underlying e = some (.struct fs)) (hone : oneCellFields P fs = true) (hC : P.cellsOf e = fs.size)
    (hc : w.cells? base a (P.cellsOf e) = some cs) (ht : DataW.trod enc P w base spare held fuel e cs = some x) :
    ∃ n, ∀ j f, fs[j]? = some f → ∃ v y, w.cell? (a.add j) = some v ∧ DataW.trod enc P w base spare held n f.type [v] = some y := by
  rw [hC] at hc
  obtain ⟨ys, n, _, hy, hlen, hyl, hf⟩ := DataW.trod_struct he ht
  obtain ⟨_, hcl, hat⟩ := World.cells?_some hc
  refine ⟨n, fun j f hj => ?_⟩
  obtain ⟨ho, hk⟩ := hone_of hone j f hj
  have hjl : j < fs.size := (Array.getElem?_eq_some_iff.1 hj).1
  have h1 := hf j f hj
  rw [ho, hk, List.drop_eq_getElem_cons (show j < cs.length by omega)] at h1
  have hys : ys[j]? = some (ys[j]'(by omega)) := List.getElem?_eq_getElem (by omega)
  exact ⟨_, _, (hat j hjl).trans (List.getElem?_eq_getElem (by omega)), h1.trans hys⟩
end
theorem block_lt {w : World} {a : Addr} {v : Value} (h : w.cell? a = some v) : a.block < w.heap.size ∧ a.spot = none := by
  unfold World.cell? at h
  split at h
  · rename_i c _ _ hh
    refine ⟨(Array.getElem?_eq_some_iff.1 hh).1, ?_⟩
    cases hs : a.spot with
    | none => rfl
    | some s => simp [hs] at h
  · cases h
theorem one_of {a b : Value} (h : [a] = [b]) : a = b := by injection h
theorem add_none {b off k : Nat} : (⟨b, off, none⟩ : Addr).add k = ⟨b, off + k, none⟩ := Addr.add_mid b off k
/-- One element. -/
theorem obs_elem {H : Type} {enc : TypeId × Value → H} {w : World} {base : Nat} {spare : Nat → Bool} {held : Bool} {m b off : Nat} {cs : List Value} {x : DataW H × List MemPlace}
    (hc : w.cells? base ⟨b, off, none⟩ (Tryz.prog.cellsOf 44) = some cs) (ht : DataW.trod enc Tryz.prog w base spare held m 44 cs = some x) :
    ∃ o : Ob, OB o ∧ w.rangeAt b off (obsC o) := by
  obtain ⟨n, hf⟩ := elem_fields Tryz.underlying44 (by kernel_rfl) (by kernel_rfl) hc ht
  obtain ⟨v0, y0, k0, t0⟩ := hf 0 _ rfl
  obtain ⟨v1, y1, k1, t1⟩ := hf 1 _ rfl
  obtain ⟨v2, y2, k2, t2⟩ := hf 2 _ rfl
  obtain ⟨v3, y3, k3, t3⟩ := hf 3 _ rfl
  obtain ⟨v4, y4, k4, t4⟩ := hf 4 _ rfl
  obtain ⟨v5, y5, k5, t5⟩ := hf 5 _ rfl
  obtain ⟨v6, y6, k6, t6⟩ := hf 6 _ rfl
  obtain ⟨v7, y7, k7, t7⟩ := hf 7 _ rfl
  obtain ⟨a0, e0, _, w0⟩ := DataW.trod_string Tryz.underlying9 t0
  obtain ⟨a1, e1, _, w1⟩ := DataW.trod_string Tryz.underlying9 t1
  obtain ⟨a2, e2, _, w2⟩ := DataW.trod_int Tryz.underlying2 t2
  obtain ⟨a3, e3, _, w3⟩ := DataW.trod_int Tryz.underlying2 t3
  obtain ⟨a4, e4, _, w4⟩ := DataW.trod_int Tryz.underlying2 t4
  obtain ⟨a5, e5, _, w5⟩ := DataW.trod_int Tryz.underlying2 t5
  obtain ⟨a6, e6, _, w6⟩ := DataW.trod_int Tryz.underlying3 t6
  obtain ⟨a7, e7, _, w7⟩ := DataW.trod_int Tryz.underlying5 t7
  obtain rfl := one_of e0
  obtain rfl := one_of e1
  obtain rfl := one_of e2
  obtain rfl := one_of e3
  obtain rfl := one_of e4
  obtain rfl := one_of e5
  obtain rfl := one_of e6
  obtain rfl := one_of e7
  have b2 := bounds_i64 w2
  have b7 := bounds_u8 w7
  rw [add_none] at k0 k1 k2 k3 k4 k5 k6 k7
  refine ⟨⟨a0, a1, a2, a3, a4, a5, a6, a7⟩, ⟨b2.1, b2.2, b7.1, by show a7 ≤ 255; omega, w0, w1⟩, fun j v hv => ?_⟩
  match j, hv with
  | 0, hv => cases hv; exact k0
  | 1, hv => cases hv; exact k1
  | 2, hv => cases hv; exact k2
  | 3, hv => cases hv; exact k3
  | 4, hv => cases hv; exact k4
  | 5, hv => cases hv; exact k5
  | 6, hv => cases hv; exact k6
  | 7, hv => cases hv; exact k7
  | k + 8, hv => simp at hv
theorem obs_list {H : Type} {enc : TypeId × Value → H} {w : World} {base : Nat} {spare : Nat → Bool} {held : Bool} {x : Option Addr} {len cap : Nat} {d : DataW H} {p : List MemPlace}
    (h : DataW.Trod enc Tryz.prog w base spare held 22 (.slice x len cap) d p) :
    len ≤ 9223372036854775807 ∧ ∃ l : List Ob, l.length = len ∧ SlA w x l ∧ OBs l ∧ (x = none → l = [] ∧ cap = 0) := by
  obtain ⟨fuel, hf⟩ := h
  rcases open_slice Tryz.underlying22 hf with ⟨hc, _⟩ | ⟨a, ln, cp, m, n, D, Pl, hcs, hb, hl, hmx, hmm, hx, hi⟩
  · have := one_of hc
    cases this
    exact ⟨by omega, [], rfl, Or.inl rfl, fun i hi => by simp at hi, fun _ => ⟨rfl, rfl⟩⟩
  · have := one_of hcs
    cases this
    refine ⟨by unfold maxLen at hmx; omega, ?_⟩
    by_cases h0 : len = 0
    · subst h0
      exact ⟨[], rfl, Or.inl rfl, fun i hi => by simp at hi, fun h => by cases h⟩
    · have hml : len ≤ m := by rw [hmm]; split <;> omega
      obtain ⟨b, off, spot⟩ := a
      obtain ⟨cs0, hc0, ht0⟩ := hi 0 (by omega)
      obtain ⟨n0, hf0⟩ := elem_fields Tryz.underlying44 (by kernel_rfl) (by kernel_rfl) hc0 ht0
      obtain ⟨v0, y0, k0, _⟩ := hf0 0 _ rfl
      have k0' : w.cell? ⟨b, off, spot⟩ = some v0 := by simpa [Addr.add] using k0
      obtain ⟨hlt, hsp⟩ := block_lt k0'
      obtain rfl : spot = none := hsp
      have hc8 : Tryz.prog.cellsOf 44 = 8 := by kernel_rfl
      have key : ∀ k, ∃ o : Ob, k < len → OB o ∧ w.rangeAt b (off + k * 8) (obsC o) := fun k => by
        by_cases hk : k < len
        · obtain ⟨cs', hc', ht'⟩ := hi k (by omega)
          rw [add_none] at hc'
          obtain ⟨o, ho⟩ := obs_elem hc' ht'
          rw [hc8] at ho
          exact ⟨o, fun _ => ho⟩
        · exact ⟨zeroO, fun g => absurd g hk⟩
      obtain ⟨R, hR⟩ := Classical.axiomOfChoice key
      refine ⟨(List.range len).map R, by simp, Or.inr ⟨b, off, rfl, hlt, fun i hi => ?_⟩, fun i hi => ?_, fun h => by cases h⟩
      · have hi' : i < len := by simpa using hi
        rw [List.getElem_map, List.getElem_range]
        exact (hR i hi').2
      · have hi' : i < len := by simpa using hi
        rw [List.getElem_map, List.getElem_range]
        exact (hR i hi').1
end Ow
end Go.Proofs.YtjgcbeihgeaimaaGreatDoor
/-
  TrackletSets: what the row says of memory, and the law at any input.
-/
namespace Go.Proofs.YtjgcbeihgeaimaaGreatDoor
namespace Tw
open Go.RowKit Lw Ow Tk Go.Proofs.YtjgcbeihgeaimaaGreatDoor.Ap Go.Proofs.YtjgcbeihgeaimaaGreatDoor.Op Go.Proofs.YtjgcbeihgeaimaaGreatDoor.Mp Go.Proofs.YtjgcbeihgeaimaaGreatDoor.Mw Go.Proofs.YtjgcbeihgeaimaaGreatDoor.At

theorem laidMet_tail {P : Program} {W : World} {x : String × DataW Unit} {rest : List (String × DataW Unit)} (h : laidMet P (x :: rest) W) : laidMet P rest W := by
  obtain ⟨n, d⟩ := x
  obtain ⟨ps, ⟨g', t', cs, fuel, p, q, hg', ht', hvar, hd, hr, hp⟩, hn, ha⟩ := h
  subst hp
  exact ⟨q, hr, (List.nodup_append.1 hn).2.1, fun b off hm => ha b off (List.mem_append_right _ hm)⟩
set_option maxRecDepth 100000 in
theorem err_one {enc : TypeId × Value → Unit} {W : World} {base : Nat} {sp : Nat → Bool} {fuel : Nat} {t : TypeId} {tys : Array (String × TypeId)} {v : Value} {y : DataW Unit × List MemPlace} (ht : Tryz.prog.underlying t = some (.interface tys)) (h : DataW.trod enc Tryz.prog W base sp false fuel t [v] = some y) : v = .nilIface ∨ ∃ te pe, v = .iface te pe := by
  cases fuel with
  | zero => simp [DataW.trod] at h
  | succ n =>
    cases v with
    | nilIface => exact Or.inl rfl
    | iface te pe => exact Or.inr ⟨te, pe, rfl⟩
    | _ => simp [DataW.trod, ht] at h
set_option maxRecDepth 100000 in
theorem err_cell {enc : TypeId × Value → Unit} {W : World} {base : Nat} {sp : Nat → Bool} {fuel : Nat} {t : TypeId} {tys : Array (String × TypeId)} {cs : List Value} {y : DataW Unit × List MemPlace} (ht : Tryz.prog.underlying t = some (.interface tys)) (h : DataW.trod enc Tryz.prog W base sp false fuel t cs = some y) :
    ∃ v, cs = [v] ∧ (v = .nilIface ∨ ∃ te pe, v = .iface te pe) := by
  cases fuel with
  | zero => simp [DataW.trod] at h
  | succ n =>
    match cs, h with
    | [], h => simp [DataW.trod, ht] at h
    | [v], h =>
      exact ⟨v, rfl, err_one ht h⟩
    | _ :: _ :: _, h => simp [DataW.trod, ht] at h
theorem es_trk {W : World} (hL : laidMet Tryz.prog Rows.trackletSetsRow.laid W) : ES W := by
  obtain ⟨ps, ⟨g', t', cs, fuel, p, q, hg', ht', hvar, hd, _, _⟩, _⟩ := laidMet_tail (laidMet_tail (laidMet_tail (laidMet_tail hL)))
  have hg : Tryz.prog.globalNamed "strconv.ErrSyntax" = some 1 := by kernel_rfl
  have hty : (Tryz.prog.globals[(1 : Nat)]?).map (·.type) = some 166 := by kernel_rfl
  obtain rfl := Option.some.inj (hg.symm.trans hg')
  obtain rfl := Option.some.inj (hty.symm.trans ht')
  obtain ⟨tys, hu⟩ : ∃ tys, Tryz.prog.underlying 166 = some (.interface tys) := ⟨_, Tryz.underlying166⟩
  obtain ⟨v, hc, hv⟩ := err_cell hu hd
  have c := World.var?_cell hg hvar 0
  have e0 : cs[0]? = some v := by
    rw [← Array.getElem?_toList, hc]; rfl
  rw [e0] at c
  refine ⟨?_, v, c, hv⟩
  rcases Nat.lt_or_ge 1 W.heap.size with h | h
  · exact h
  · exfalso
    unfold World.cell? at c
    rw [Array.getElem?_eq_none h] at c
    cases c
theorem db_trk {W : World} (hL : laidMet Tryz.prog Rows.trackletSetsRow.laid W) : DB W :=
  Lib.tabIs_of_head (t := 109) (e := 5) (n := 64) gDB (by kernel_rfl) (by kernel_rfl) (by kernel_rfl) (by kernel_rfl) (by kernel_rfl) (laidMet_tail hL)
theorem trackletsets_any (x : Option Addr) (cap : Nat) (l : List Ob) (u : Rl) (w : World) (hE : ES w) (hD : DB w) (hl : SlA w x l) (hc : x = none → l = [] ∧ cap = 0) (hm : l.length ≤ 9223372036854775807) (hb : OBs l) : Calls Tryz.prog 3 #[.slice x l.length cap, rlV u] w fun e w' => e = .returned (.bool true) ∧ Below w.heap.size w w' := by
  cases hg : greatT l 9
  · exact law_main x cap l u w hE hD hl hc hb hg
  · exact law_out x cap l u w hl hm hb hg
end Tw
end Go.Proofs.YtjgcbeihgeaimaaGreatDoor
