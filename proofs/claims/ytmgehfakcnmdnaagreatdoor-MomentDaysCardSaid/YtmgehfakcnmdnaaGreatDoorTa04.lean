/-
  Lemmas and walks, texts joined: WStep, WRight0, WRight, WDiv0, WDiv1, WDiv2, WDiv, WAdd, WAdd2, WGcd, WDM, FSmall, FReduce.
-/
import Derived.Laws.CopyOwn
import Derived.Deep.RegionHeld3
import Derived.Test.YtmgehfakcnmdnaaGreatDoorTa03
set_option linter.unusedSimpArgs false
set_option linter.unusedVariables false
/-
  The walk of step of package wide: one limb of a quotient.
-/
namespace Go.Proofs.YtmgehfakcnmdnaaGreatDoor
namespace Wd
open Go.RowKit Lw

theorem sz4i : (Tryz.prog.info? 91).map (·.size) = some 1 := by kernel_rfl
theorem us_len (L : List Nat) : (us L).length = L.length := by simp [us]
theorem us_one (L : List Nat) : ∀ v ∈ us L, v.oneCell' = true := fun u hu => by obtain ⟨x, _, rfl⟩ := List.mem_map.1 hu; rfl
theorem row_src {w : World} {g : Nat} {L : List Nat} (h : Row w g L) : ∀ i x, (us L)[i]? = some x → w.cell? ((⟨g, 0, none⟩ : Addr).add i) = some x := fun i x hx => by
  have hi : i < L.length := by have := (List.getElem?_eq_some_iff.1 hx).1; simpa [us] using this
  have e : (⟨g, 0, none⟩ : Addr).add i = ⟨g, i, none⟩ := by simp [Addr.add]; omega
  rw [e, h.cell hi]
  simpa [us, hi] using hx
theorem below_grown {w w' : World} (h : Below w.heap.size w w') (row : Option Nat) : w.grownBy w' row := ⟨h.os, h.tape, h.output, h.size, fun k hk _ => h.block k hk⟩
theorem row_copy {w : World} {g : Nat} {F : List Nat} {cur : Array Value} (hg : w.heap[g]? = some (.cells cur 91 (0, 0))) (e : cur.toList.take F.length = us F) (j n : Nat) (r : List Nat) (hr : r.length = n + 1) (hj : j + n + 1 ≤ F.length) :
    Row (w.setRow g (cur.toList.take j ++ (us r ++ cur.toList.drop (j + (us r).length))).toArray) g (put F j n r) := by
  have hlr : (us r).length = n + 1 := by simp [us, hr]
  have hcl : F.length ≤ cur.toList.length := by
    have := congrArg List.length e
    simp only [List.length_take, us, List.length_map] at this
    omega
  refine ⟨_, setRow_heap w g _ _ _ _ hg, ?_⟩
  rw [List.toList_toArray, put_len hj hr, hlr]
  have h1 : cur.toList.take j = us (F.take j) := by
    have := congrArg (List.take j) e
    rwa [List.take_take, Nat.min_eq_left (by omega), us, ← List.map_take] at this
  have h2 : (cur.toList.drop (j + (n + 1))).take (F.length - (j + (n + 1))) = us (F.drop (j + (n + 1))) := by
    have := congrArg (List.drop (j + (n + 1))) e
    rwa [List.drop_take, us, ← List.map_drop] at this
  have hlj : (us (F.take j)).length = j := by simp [us]; omega
  have t1 : (us (F.take j)).take F.length = us (F.take j) := List.take_of_length_le (by omega)
  have t2 : (us r).take (F.length - j) = us r := List.take_of_length_le (by omega)
  rw [h1, List.take_append, List.take_append, hlj, hlr, t1, t2, show F.length - j - (n + 1) = F.length - (j + (n + 1)) by omega, h2]
  simp only [us, put, List.map_append, Nat.add_assoc]
theorem row_copy_grown (w : World) (g : Nat) (cs : Array Value) : w.grownBy (w.setRow g cs) (some g) :=
  ⟨rfl, rfl, rfl, by simp [World.setRow], fun k _ hk => setRow_other w g k cs (fun e => hk (by rw [e]))⟩
/-- What step does: one limb of the quotient; the rest in the window. -/
structure StepPost (w : World) (g j n : Nat) (F v : List Nat) (e : Ending) (w' : World) : Prop where
  e : e = .returned (.int .u32 ((val (win F j n) / val v : Nat) : Int))
  r : ∃ r, r.length = n + 1 ∧ Lb r ∧ val r = val (win F j n) % val v ∧ Row w' g (put F j n r)
  g : w.grownBy w' (some g)
set_option maxRecDepth 100000 in
set_option maxHeartbeats 4000000 in
theorem step_walk (F v : List Nat) (g j cu p cv : Nat) (D : Option Addr) (w : World) (hF : Row w g F) (bF : Lb F) (hj : j + (p + 1) + 1 ≤ F.length) (hcu : p + 1 + 1 ≤ cu) (hn : p + 1 + 1 ≤ 1000000) (hD : Lim w D (p + 1) cv v) (hne : ∀ b off, D = some ⟨b, off, none⟩ → b ≠ g) (hy : ∀ h : p < v.length, 0 < v[p]) (ht : val (win F j (p + 1)) < val v * 4294967296) :
    Calls Tryz.prog 157 #[.slice (some ⟨g, j, none⟩) (p + 1 + 1) cu, .slice D (p + 1) cv] w (StepPost w g j (p + 1) F v) := by
  have lv := hD.len
  have hUl : Lim w (some ⟨g, j, none⟩) (p + 1 + 1) cu (win F j (p + 1)) := hF.lim bF j (p + 1 + 1) (cap := cu) (by omega) hcu hn
  have lU := win_len hj
  have bU := lb_win bF j (p + 1)
  have hy := hy (by omega)
  have hQ := digit_lt ht
  have hV0 : 0 < val v := by
    rcases Nat.eq_zero_or_pos (val v) with h | h
    · rw [h] at ht; omega
    · exact h
  have c1 := hUl.cell (k := p + 1) (by show p + 1 < (win F j (p + 1)).length; omega)
  have c2 := hUl.cell (k := p) (by show p < (win F j (p + 1)).length; omega)
  obtain ⟨bD, oD, rfl, hDlt, -⟩ := hD.row (by omega)
  have c3 := hD.cell (k := p) (by omega)
  have gg := guess_ge (u := win F j (p + 1)) (v := v) (n := p + 1) (by omega) lU lv bU hD.lb hy
  have b1 : (win F j (p + 1))[p + 1]'(by omega) < 4294967296 := lb_get bU (by omega)
  have b2 : (win F j (p + 1))[p]'(by omega) < 4294967296 := lb_get bU (by omega)
  have b3 := lb_get hD.lb (k := p) (by omega)
  change w.cell? ⟨g, j + (p + 1), none⟩ = some (.int .u32 ((win F j (p + 1))[p + 1] : Int)) at c1
  change w.cell? ⟨g, j + p, none⟩ = some (.int .u32 ((win F j (p + 1))[p] : Int)) at c2
  simp only [Nat.add_sub_cancel] at gg
  generalize (win F j (p + 1))[p + 1]'(by omega) = un at c1 gg b1
  generalize (win F j (p + 1))[p]'(by omega) = um at c2 gg b2
  generalize v[p]'(by omega) = vm at c3 gg b3 hy
  have HF := Lib.hid hF
  have HD := Lib.hid hD
  have HU := Lib.hid hUl
  have e1 : IntKind.i64.wrap ((p : Int) + 1 - 1) = (p : Int) := by rw [IntWalk.i64_in _ (by omega)]; omega
  clear hF hD hUl
  obtain ⟨cur, hcur, ecur⟩ := HF.out
  have gF := HF.out.lt
  have hcs : F.length ≤ cur.size := by
    have := congrArg List.length ecur
    simp only [List.length_take, us_len, Array.length_toList] at this
    omega
  have HCU := Lib.hid hcur
  have HCE := Lib.hid ecur
  clear hcur ecur HF
  have HT := Lib.hid ht
  clear ht
  by_cases h : un < vm
  · have dv := fun w => div32 un um vm w h b2 b3
    have hq := quo_lt h b2
    generalize (un * 4294967296 + um) / vm = G at dv gg hq
    generalize (un * 4294967296 + um) % vm = G2 at dv
    have hi : (un : Int) < (vm : Int) := by omega
    go_enter Tryz.func157, Tryz.ntmps157
    go_wp2
    go_quiet (fail)
    go_wp2
    go_quiet ((go_at_call 164; first | exact quiet_more dv | exact quiet_add_more dv))
    go_wp2
    go_loopw [6, 7] (fun gu _ wr => ∃ q : Nat, gu = .int .u32 (q : Int) ∧ val (win F j (p + 1)) / val v ≤ q ∧ q < 4294967296 ∧ Below w.heap.size w wr) (fun gu _ _ => (intOf gu).toNat)
    case atStart => exact ⟨G, rfl, gg, hq, below_drewN (below_drewN (Below.refl _ w) _) _⟩
    case round =>
      clear c1 c2 c3 gg
      obtain ⟨q, rfl, hqq, hq, hB⟩ := hrel
      have cl := clone_walk _ _ _ _ wr (HU.out.below hB) (by omega)
      have hs1 := hB.size
      have HB := Lib.hid hB
      clear hB
      by_cases hle : q * val v ≤ val (win F j (p + 1))
      · have dq := decide_eq_true hle
        have Hle := Lib.hid hle
        have Hqq := Lib.hid hqq
        clear hle hqq
        go_wp2_with (first | (go_at_call 138; refine cl.mono ?_; rintro e w1 ⟨V, rfl, hO, hb1⟩; clear cl; obtain ⟨g1, cap1, hV, hc1, hg1, hR1⟩ := own_row hO (by rw [lU]; omega); rw [lU] at hV; subst hV; rw [lU] at hc1; have hB1 := below_then HB.out hb1; have sw := subtract_walk (win F j (p + 1)) v g1 cap1 (p + 1) cv q (some ⟨bD, oD, none⟩) w1 hR1 bU lU (HD.out.below hB1) (fun b off e => by cases e; omega) hq hn; have HB1 := Lib.hid hB1; clear hB1 hb1 hO hR1) | (go_at_call 166; refine sw.mono ?_; clear sw; rintro e w2 ⟨rfl, ⟨U', hr1, hr2, hr3, hr4⟩, hgr⟩; rw [dq]; have hB2 := HB1.out.grown hgr HB1.out.size (fun k e => by cases e; omega); have hc2 := (hB2.block g gF).trans HCU.out; have HC2 := Lib.hid hc2; have HB2 := Lib.hid hB2; have HR1 := Lib.hid hr1; have HR4 := Lib.hid hr4; clear hgr hB2 hc2 hr1 hr4) | (with_reducible refine wpList_copy_own rfl (.tmp 44) (.tmp 45) 27 27 rfl 91 Tryz.underlying27 sz4i g j (p + 1 + 1) cu ⟨g1, 0, none⟩ (p + 1 + 1) cap1 rfl rfl cur 91 HC2.out (us U') (by rw [us_len, hr2, lU]; exact (Nat.min_self _).symm) (row_src HR1.out) (by rw [us_len, hr2, lU]; omega) (us_one U') ?_))
        obtain ⟨e1, e2⟩ := quo_fin hV0 Hqq.out (HR4.out Hle.out)
        refine bodyPost_ret (results_tmp rfl _ _ _) rfl ⟨by rw [← e1]; rfl, ⟨U', by rw [hr2, lU], hr3, e2, ?_⟩, (below_grown HB2.out (some g)).trans (row_copy_grown _ _ _)⟩
        have := row_copy (g := g) (w := w2) HC2.out HCE.out j (p + 1) U' (by rw [hr2, lU]) hj
        rw [us_len, hr2, lU] at this
        exact this
      · have dq := decide_eq_false hle
        have q1 : 1 ≤ q := by
          rcases Nat.eq_zero_or_pos q with h0 | h0
          · exact absurd (by rw [h0]; omega) hle
          · exact h0
        have hq2 : val (win F j (p + 1)) / val v ≤ q - 1 := by
          have : ¬ q ≤ val (win F j (p + 1)) / val v := fun h => hle ((le_quo hV0).2 h)
          omega
        have e2 : ((q - 1 : Nat) : Int) = (q : Int) - 1 := by omega
        have E2 := Lib.hid e2
        have Hq2 := Lib.hid hq2
        have k1 : (1 : Int) ≤ (q : Int) := by omega
        clear hle hqq e2 hq2
        go_wp2_with (first | (go_at_call 138; refine cl.mono ?_; rintro e w1 ⟨V, rfl, hO, hb1⟩; clear cl; obtain ⟨g1, cap1, hV, hc1, hg1, hR1⟩ := own_row hO (by rw [lU]; omega); rw [lU] at hV; subst hV; rw [lU] at hc1; have hB1 := below_then HB.out hb1; have sw := subtract_walk (win F j (p + 1)) v g1 cap1 (p + 1) cv q (some ⟨bD, oD, none⟩) w1 hR1 bU lU (HD.out.below hB1) (fun b off e => by cases e; omega) hq hn; have HB1 := Lib.hid hB1; clear hB1 hb1 hO hR1) | (go_at_call 166; refine sw.mono ?_; clear sw; rintro e w2 ⟨rfl, -, hgr⟩; rw [dq]; have hB2 := HB1.out.grown hgr HB1.out.size (fun k e => by cases e; omega); have HB2 := Lib.hid hB2; clear hgr hB2))
        go_roundw
        case rel => exact ⟨q - 1, by rw [E2.out], Hq2.out, by omega, HB2.out⟩
        case measure => simp [intOf]; omega
  · have hi : ¬ (un : Int) < (vm : Int) := by omega
    go_enter Tryz.func157, Tryz.ntmps157
    go_wp2
    go_quiet (fail)
    go_wp2
    go_loopw [6, 7] (fun gu _ wr => ∃ q : Nat, gu = .int .u32 (q : Int) ∧ val (win F j (p + 1)) / val v ≤ q ∧ q < 4294967296 ∧ Below w.heap.size w wr) (fun gu _ _ => (intOf gu).toNat)
    case atStart => exact ⟨4294967295, rfl, by omega, by omega, below_drewN (Below.refl _ w) _⟩
    case round =>
      clear c1 c2 c3 gg
      obtain ⟨q, rfl, hqq, hq, hB⟩ := hrel
      have cl := clone_walk _ _ _ _ wr (HU.out.below hB) (by omega)
      have hs1 := hB.size
      have HB := Lib.hid hB
      clear hB
      by_cases hle : q * val v ≤ val (win F j (p + 1))
      · have dq := decide_eq_true hle
        have Hle := Lib.hid hle
        have Hqq := Lib.hid hqq
        clear hle hqq
        go_wp2_with (first | (go_at_call 138; refine cl.mono ?_; rintro e w1 ⟨V, rfl, hO, hb1⟩; clear cl; obtain ⟨g1, cap1, hV, hc1, hg1, hR1⟩ := own_row hO (by rw [lU]; omega); rw [lU] at hV; subst hV; rw [lU] at hc1; have hB1 := below_then HB.out hb1; have sw := subtract_walk (win F j (p + 1)) v g1 cap1 (p + 1) cv q (some ⟨bD, oD, none⟩) w1 hR1 bU lU (HD.out.below hB1) (fun b off e => by cases e; omega) hq hn; have HB1 := Lib.hid hB1; clear hB1 hb1 hO hR1) | (go_at_call 166; refine sw.mono ?_; clear sw; rintro e w2 ⟨rfl, ⟨U', hr1, hr2, hr3, hr4⟩, hgr⟩; rw [dq]; have hB2 := HB1.out.grown hgr HB1.out.size (fun k e => by cases e; omega); have hc2 := (hB2.block g gF).trans HCU.out; have HC2 := Lib.hid hc2; have HB2 := Lib.hid hB2; have HR1 := Lib.hid hr1; have HR4 := Lib.hid hr4; clear hgr hB2 hc2 hr1 hr4) | (with_reducible refine wpList_copy_own rfl (.tmp 44) (.tmp 45) 27 27 rfl 91 Tryz.underlying27 sz4i g j (p + 1 + 1) cu ⟨g1, 0, none⟩ (p + 1 + 1) cap1 rfl rfl cur 91 HC2.out (us U') (by rw [us_len, hr2, lU]; exact (Nat.min_self _).symm) (row_src HR1.out) (by rw [us_len, hr2, lU]; omega) (us_one U') ?_))
        obtain ⟨e1, e2⟩ := quo_fin hV0 Hqq.out (HR4.out Hle.out)
        refine bodyPost_ret (results_tmp rfl _ _ _) rfl ⟨by rw [← e1]; rfl, ⟨U', by rw [hr2, lU], hr3, e2, ?_⟩, (below_grown HB2.out (some g)).trans (row_copy_grown _ _ _)⟩
        have := row_copy (g := g) (w := w2) HC2.out HCE.out j (p + 1) U' (by rw [hr2, lU]) hj
        rw [us_len, hr2, lU] at this
        exact this
      · have dq := decide_eq_false hle
        have q1 : 1 ≤ q := by
          rcases Nat.eq_zero_or_pos q with h0 | h0
          · exact absurd (by rw [h0]; omega) hle
          · exact h0
        have hq2 : val (win F j (p + 1)) / val v ≤ q - 1 := by
          have : ¬ q ≤ val (win F j (p + 1)) / val v := fun h => hle ((le_quo hV0).2 h)
          omega
        have e2 : ((q - 1 : Nat) : Int) = (q : Int) - 1 := by omega
        have E2 := Lib.hid e2
        have Hq2 := Lib.hid hq2
        have k1 : (1 : Int) ≤ (q : Int) := by omega
        clear hle hqq e2 hq2
        go_wp2_with (first | (go_at_call 138; refine cl.mono ?_; rintro e w1 ⟨V, rfl, hO, hb1⟩; clear cl; obtain ⟨g1, cap1, hV, hc1, hg1, hR1⟩ := own_row hO (by rw [lU]; omega); rw [lU] at hV; subst hV; rw [lU] at hc1; have hB1 := below_then HB.out hb1; have sw := subtract_walk (win F j (p + 1)) v g1 cap1 (p + 1) cv q (some ⟨bD, oD, none⟩) w1 hR1 bU lU (HD.out.below hB1) (fun b off e => by cases e; omega) hq hn; have HB1 := Lib.hid hB1; clear hB1 hb1 hO hR1) | (go_at_call 166; refine sw.mono ?_; clear sw; rintro e w2 ⟨rfl, -, hgr⟩; rw [dq]; have hB2 := HB1.out.grown hgr HB1.out.size (fun k e => by cases e; omega); have HB2 := Lib.hid hB2; clear hgr hB2))
        go_roundw
        case rel => exact ⟨q - 1, by rw [E2.out], Hq2.out, by omega, HB2.out⟩
        case measure => simp [intOf]; omega
end Wd
end Go.Proofs.YtmgehfakcnmdnaaGreatDoor
/-
  What right of package wide needs: ContainsFunc of nothing, slicing from the beginning.
-/
namespace Go.Proofs.YtmgehfakcnmdnaaGreatDoor
namespace Wd
open Go.RowKit Lw

set_option maxRecDepth 100000 in
set_option maxHeartbeats 1000000 in
theorem index_nil (A : Option Addr) (cap : Nat) (f : Value) (w : World) :
    Calls Tryz.prog 169 #[.slice A 0 cap, f] w fun e w' => e = .returned (.int .i64 (-1)) ∧ w = w' := by
  go_enter Tryz.func169, Tryz.ntmps169
  go_wp2
  go_loopw [8] (fun i wr => i = .int .i64 0 ∧ wr = w) (fun _ _ => 0)
  case atStart => exact ⟨rfl, rfl⟩
  case round =>
    obtain ⟨rfl, rfl⟩ := hrel
    go_wp2
    exact bodyPost_ret (results_tmp rfl _ _ _) rfl ⟨rfl, rfl⟩
set_option maxRecDepth 100000 in
set_option maxHeartbeats 1000000 in
theorem contains_nil (A : Option Addr) (cap : Nat) (f : Value) (w : World) :
    Calls Tryz.prog 167 #[.slice A 0 cap, f] w fun e w' => e = .returned (.bool false) ∧ w = w' := by
  go_enter Tryz.func167, Tryz.ntmps167
  go_wp2_with (go_at_call 169; refine (index_nil _ _ _ _).mono ?_; rintro e w' ⟨rfl, rfl⟩)
  exact bodyPost_ret (results_tmp rfl _ _ _) rfl ⟨rfl, rfl⟩
theorem from_run (a : Option Addr) (n cap : Nat) (h : n ≤ cap) (w : World) :
    (Instr.slice 27 (.slice a n cap) (some (.int .i64 0)) none none).run Tryz.prog w = .ok (.slice a n cap) w := by
  rw [run_slice_l w _ a n cap el_us .i64 0 (by omega) (by omega), sz_us]
  have e : sliced a 0 n cap 1 = .slice a n cap := by
    unfold sliced
    rw [Nat.sub_zero, Nat.sub_zero]
    cases a <;> simp [addr_zero]
  simp only [Result.andThen]
  exact congrArg (Result.ok · w) e
theorem and_mod (T s : Nat) (hT : T < 18446744073709551616) (hs : s ≤ 31) : bits BinOp.and IntKind.u64 (T : Int) ((2 : Int) ^ s - 1) = ((T % 2 ^ s : Nat) : Int) := by
  have h31 : (2 : Nat) ^ s ≤ 2147483648 := Nat.pow_le_pow_right (show 0 < 2 by decide) hs
  have hp : 0 < (2 : Nat) ^ s := Nat.two_pow_pos s
  have e : (2 : Int) ^ s - 1 = ((2 ^ s - 1 : Nat) : Int) := by
    have : ((2 ^ s : Nat) : Int) = (2 : Int) ^ s := by rw [Int.natCast_pow]; rfl
    rw [← this]; omega
  rw [e, u64_and_nat _ _ hT (by omega), Nat.and_two_pow_sub_one_eq_mod]
end Wd
end Go.Proofs.YtmgehfakcnmdnaaGreatDoor
/-
  The walk of right of package wide, at less than 32 bits.
-/
namespace Go.Proofs.YtmgehfakcnmdnaaGreatDoor
namespace Wd
open Go.RowKit Lw Go.Shelf
attribute [local go_sem] Oper.semAt_some

theorem Boxed.drew' {W : World} {B : Nat} {t : TypeId} {v : Value} (h : Boxed W B t v) : Boxed W.drew B t v := h
theorem Boxed.far {W : World} {B b o : Nat} {t : TypeId} {v u : Value} (h : Boxed W B t v) (hne : B ≠ b) : Boxed (W.setCell ⟨b, o, none⟩ u) B t v := h.kept (grownBy_set2 _ _ _ _) (by simpa using hne)
set_option maxRecDepth 100000 in
set_option maxHeartbeats 4000000 in
theorem right_walk (l : List Nat) (A : Option Addr) (n cap s : Nat) (w : World) (hA : Lim w A n cap l) (hs : s ≤ 31) :
    Calls Tryz.prog 158 #[.slice A n cap, .int .i64 (s : Int)] w fun e w' => ∃ b L, e = .returned (.tuple #[.slice (some ⟨w.heap.size + 1, 0, none⟩) n n, .bool b]) ∧ L.length = n ∧ Lb L ∧ val L = val l / 2 ^ s ∧ Arr w' (w.heap.size + 1) L ∧ Below w.heap.size w w' := by
  have la := hA.len
  have sa := hA.sm
  have cpa := hA.cp
  have hmk := make_nu n sa
  have ht0 := take_run A n cap 0 (by omega)
  have hf0 := from_run A n cap cpa
  have k1 : (s : Int).tdiv 32 = 0 := Int.tdiv_eq_zero_of_lt (by omega) (by omega)
  have k2 : (s : Int).tmod 32 = (s : Int) := Int.tmod_eq_of_lt (by omega) (by omega)
  have k3 : (0 : Int) ≤ (n : Int) := by omega
  have k4 : min (0 : Int) (n : Int) = 0 := by omega
  have h31 : (2 : Nat) ^ s ≤ 2147483648 := Nat.pow_le_pow_right (show 0 < 2 by decide) hs
  have hp2 := Nat.two_pow_pos s
  refine (callsIn_wide (n := 3)).1 ?_
  refine callsIn_of_wp_marks Tryz.func158 rfl trivial ?_ rfl
  simp only [Tryz.ntmps158, List.size_toArray, List.length_cons, List.length_nil, Nat.reduceAdd, Nat.reduceSub, Array.replicate_succ, Array.replicate_zero, List.push_toArray, List.append_toArray, List.nil_append, List.cons_append]
  gi_wp2_with (refine ⟨trivial, ?_⟩; first | (gi_at_call 167; refine (callsIn_wide.2 (contains_nil _ _ _ _)).mono ?_; rintro e w' ⟨rfl, rfl⟩) | (gi_at_call 135; refine (callsIn_wide.2 (down_walk _ _ _ _)).mono ?_; rintro e w' ⟨rfl, rfl⟩))
  have bD := Boxed.new w 3 (.int .i64 (s : Int))
  have aG := Arr.nu (w.alloc (.cells #[.int .i64 (s : Int)] 3)) n
  have bO := Boxed.new ((w.alloc (.cells #[.int .i64 (s : Int)] 3)).alloc (.cells (nu n) 91)) 27 (.slice (some ⟨w.heap.size + 1, 0, none⟩) n n)
  have bR := Boxed.new (((w.alloc (.cells #[.int .i64 (s : Int)] 3)).alloc (.cells (nu n) 91)).alloc (.cells #[.slice (some ⟨w.heap.size + 1, 0, none⟩) n n] 27)) 65 (.int .u64 0)
  have bL := Boxed.new ((((w.alloc (.cells #[.int .i64 (s : Int)] 3)).alloc (.cells (nu n) 91)).alloc (.cells #[.slice (some ⟨w.heap.size + 1, 0, none⟩) n n] 27)).alloc (.cells #[.int .u64 0] 65)) 27 (.slice A n cap)
  simp only [World.size_alloc] at aG bO bR bL
  have aG2 := ((aG.below ((Below.refl _ _).alloc (Nat.le_refl _) (.cells #[.slice (some ⟨w.heap.size + 1, 0, none⟩) n n] 27))).below ((Below.refl _ _).alloc (Nat.le_refl _) (.cells #[.int .u64 0] 65))).below ((Below.refl _ _).alloc (Nat.le_refl _) (.cells #[.slice A n cap] 27))
  have hB0 : Below w.heap.size w (((((w.alloc (.cells #[.int .i64 (s : Int)] 3)).alloc (.cells (nu n) 91)).alloc (.cells #[.slice (some ⟨w.heap.size + 1, 0, none⟩) n n] 27)).alloc (.cells #[.int .u64 0] 65)).alloc (.cells #[.slice A n cap] 27)) :=
    (((((Below.refl _ w).alloc (Nat.le_refl _) _).alloc (by simp) _).alloc (by simp; omega) _).alloc (by simp; omega) _).alloc (by simp; omega) _
  have bD2 := (((bD.alloc (.cells (nu n) 91)).alloc (.cells #[.slice (some ⟨w.heap.size + 1, 0, none⟩) n n] 27)).alloc (.cells #[.int .u64 0] 65)).alloc (.cells #[.slice A n cap] 27)
  have bO2 := (bO.alloc (.cells #[.int .u64 0] 65)).alloc (.cells #[.slice A n cap] 27)
  have bR2 := bR.alloc (.cells #[.slice A n cap] 27)
  have hmx : Tryz.prog.follows .mixedOrders = true := by kernel_rfl
  refine wpIn_rangeFunc_ownG rfl (by omega) (gf := 153) (lb := #[.pointer (some ⟨w.heap.size + 1 + 1 + 1 + 1, 0, none⟩)]) rfl trivial (enters_of Tryz.func153 (by kernel_rfl) rfl)
    (down_stops Fence.wide _ trivial rfl (by omega) (w.heap.size + 1 + 1 + 1 + 1) l A n cap w _ hA hB0 bL) keepB_t (keepB_b (by simp; omega) (by simp)) (Below.refl _ _) (fun _ => rfl)
    (fun pre W => (∃ L r, SH l (2 ^ s) (w.heap.size + 1) n pre W L r ∧ Boxed W w.heap.size 3 (.int .i64 (s : Int)) ∧ Boxed W (w.heap.size + 1 + 1) 27 (.slice (some ⟨w.heap.size + 1, 0, none⟩) n n) ∧ Boxed W (w.heap.size + 1 + 1 + 1) 65 (.int .u64 (r : Int))) ∧ Below w.heap.size w W)
    (fun _ _ _ => False)
    (OwnFrom.and (Own.from (fun s A B row hs hg hr => by obtain ⟨L, r, h1, h2, h3, h4⟩ := hs; exact ⟨L, r, h1.own hg hr, Boxed.own h2 hg hr, Boxed.own h3 hg hr, Boxed.own h4 hg hr⟩) _) (ownFrom_below (Nat.le_refl _) (by simp; omega)))
    (fun _ _ _ _ _ hs _ _ => hs)
    ⟨⟨_, 0, SH.zero l la hp2 aG2, bD2, bO2, bR2⟩, hB0⟩
    (fun x => { tmps := #[.slice A n cap, .int .i64 (s : Int), undef, .pointer (some ⟨w.heap.size, 0, none⟩), .slice none 0 0, .bool false, .int .i64 0, .bool false, .pointer (some ⟨w.heap.size + 1 + 1, 0, none⟩), .pointer (some ⟨w.heap.size + 1 + 1 + 1, 0, none⟩), .int .i64 (x.1 : Int), .int .u32 (l[x.1] : Int), .int .i64 (s : Int), .int .i64 0, .slice A n cap, .int .i64 (n : Int), .int .i64 0, .slice A n cap, .int .i64 0, .slice A 0 cap, .bool false, .slice A n cap, .int .i64 (n : Int), .int .i64 0, .int .i64 (n : Int), .slice (some ⟨w.heap.size + 1, 0, none⟩) n n, .slice A n cap, .int .i64 0, .slice A n cap, .func (.func 153) #[] #[.pointer (some ⟨w.heap.size + 1 + 1 + 1 + 1, 0, none⟩)], .int .i64 (x.1 : Int), .int .u32 (l[x.1] : Int), undef, undef, undef, undef, undef, undef, undef, undef, undef, undef, undef, undef, undef, undef, undef, undef, undef, undef, undef, undef, undef, undef, undef, undef, undef], defers := [] }) ?assign ?body ?done ?stop
  case assign =>
    intro l x W K hK
    dsimp only [dnEnc]
    gi_wp2
    exact hK
  case body =>
    rintro lp pre x W ⟨⟨L, r, hS, hbD, hbO, hbR⟩, hB⟩ _
    have hx := x.2
    have c1 := hbD.cell
    have c2 := hbO.cell
    have c3 := hbR.cell
    have f3 := hbR.frozen
    obtain ⟨lx, c4⟩ : ∃ lx : Nat, W.cell? ⟨w.heap.size + 1, x.1, none⟩ = some (.int .u32 (lx : Int)) := ⟨_, hS.arr.cell (k := x.1) (by rw [hS.len]; omega)⟩
    have f4 := hS.arr.free x.1
    have x1 : (x.1 : Int) < (n : Int) := by omega
    have hr := hS.r1
    have xb := lb_get hA.lb x.2
    have st := fun W' hA' => hS.step hA.lb (by omega) la x (W' := W') hA'
    have q32 := quo_lt hr xb
    have r1 := or_sum r l[x.1] (by omega) xb
    have hT : r * 4294967296 + l[x.1] < 18446744073709551616 := by omega
    generalize hxv : l[x.1] = xv at *
    generalize hTT : r * 4294967296 + xv = T at *
    have r2 : (T : Int) / 2 ^ s = ((T / 2 ^ s : Nat) : Int) := by rw [Int.natCast_ediv, Int.natCast_pow]; rfl
    have r3 := and_mod T s hT hs
    have m31 : T % 2 ^ s < 2147483648 := Nat.lt_of_lt_of_le (Nat.mod_lt _ hp2) h31
    have r5 : IntKind.u64.wrap ((2 : Int) ^ s) = (2 : Int) ^ s := by
      rw [show (2 : Int) ^ s = ((2 ^ s : Nat) : Int) by rw [Int.natCast_pow]; rfl]
      exact IntWalk.u64_in _ (by omega)
    have r6 : IntKind.u64.wrap ((2 : Int) ^ s - 1) = (2 : Int) ^ s - 1 := by
      rw [show (2 : Int) ^ s = ((2 ^ s : Nat) : Int) by rw [Int.natCast_pow]; rfl]
      exact IntWalk.u64_in _ (by omega)
    generalize hq : T / 2 ^ s = q at *
    generalize hm : T % 2 ^ s = m at *
    have r4 : (q : Int) % 4294967296 = (q : Int) := by omega
    have r7 : IntKind.u32.wrap (q : Int) = (q : Int) := IntWalk.u32_in _ (by omega)
    have St := Lib.hid st
    have HS := Lib.hid hS
    have HB := Lib.hid hB
    have hb0 : r < 2147483648 := by omega
    clear st hS hq hm hxv hTT hB bD aG bO bR bL aG2 hB0 bD2 bO2 bR2 hmk ht0 hf0 k1 k3
    gi_wp2
    have d1 : (W.setCell ⟨w.heap.size + 1 + 1 + 1, 0, none⟩ (.int .u64 (T : Int))).cell? ⟨w.heap.size, 0, none⟩ = some (.int .i64 (s : Int)) := (World.cell?_setCell_far _ _ _ _ (by simp <;> omega)).trans c1
    have d2 : (W.setCell ⟨w.heap.size + 1 + 1 + 1, 0, none⟩ (.int .u64 (T : Int))).cell? ⟨w.heap.size + 1 + 1, 0, none⟩ = some (.slice (some ⟨w.heap.size + 1, 0, none⟩) n n) := (World.cell?_setCell_far _ _ _ _ (by simp <;> omega)).trans c2
    have d3 : (W.setCell ⟨w.heap.size + 1 + 1 + 1, 0, none⟩ (.int .u64 (T : Int))).cell? ⟨w.heap.size + 1 + 1 + 1, 0, none⟩ = some (.int .u64 (T : Int)) := World.cell?_setCell_same' _ _ _ (by rw [c3]; rfl)
    have d4 : (W.setCell ⟨w.heap.size + 1 + 1 + 1, 0, none⟩ (.int .u64 (T : Int))).cell? ⟨w.heap.size + 1, x.1, none⟩ = some (.int .u32 (lx : Int)) := (World.cell?_setCell_far _ _ _ _ (by simp <;> omega)).trans c4
    have g3 : (W.setCell ⟨w.heap.size + 1 + 1 + 1, 0, none⟩ (.int .u64 (T : Int))).frozen? ⟨w.heap.size + 1 + 1 + 1, 0, none⟩ = false := by rw [World.frozen?_setCell]; exact f3
    have g4 : (W.setCell ⟨w.heap.size + 1 + 1 + 1, 0, none⟩ (.int .u64 (T : Int))).frozen? ⟨w.heap.size + 1, x.1, none⟩ = false := by rw [World.frozen?_setCell]; exact f4
    generalize hW8 : W.setCell ⟨w.heap.size + 1 + 1 + 1, 0, none⟩ (.int .u64 (T : Int)) = W8 at *
    refine round_region (S := (fun w' => w'.cell? ⟨w.heap.size, 0, none⟩ = some (.int .i64 (s : Int)) ∧ w'.cell? ⟨w.heap.size + 1 + 1, 0, none⟩ = some (.slice (some ⟨w.heap.size + 1, 0, none⟩) n n) ∧ w'.cell? ⟨w.heap.size + 1 + 1 + 1, 0, none⟩ = some (.int .u64 (T : Int)))) hmx (by kernel_rfl) (fun h => by obtain ⟨_, _, h⟩ := h; exact h) ⟨d1, d2, d3⟩ (fun hHeld => ?_)
    refine take_at 0 (some 37) (.slice (some ⟨w.heap.size + 1, 0, none⟩) n n) rfl rfl (by kernel_rfl) (by kernel_rfl) (by kernel_rfl) (fun _ _ _ h => h) (Or.inl ⟨by rfl, ?_⟩) (by assumption) ?_
    · intro w hSw
      go_simp
      try with_reducible rfl
    simp only [Act.put, List.setIfInBounds_toArray, List.set_cons_zero, List.set_cons_succ]
    refine take_at 1 (some 38) (.int .i64 (x.1 : Int)) rfl rfl (by kernel_rfl) (by kernel_rfl) (by kernel_rfl) (fun _ _ _ h => h) (Or.inl ⟨by rfl, ?_⟩) (by assumption) ?_
    · intro w hSw
      go_simp
      try with_reducible rfl
    simp only [Act.put, List.setIfInBounds_toArray, List.set_cons_zero, List.set_cons_succ]
    refine take_at 2 (some 39) (.int .u64 (T : Int)) rfl rfl (by kernel_rfl) (by kernel_rfl) (by kernel_rfl) (fun _ _ _ h => h) (Or.inl ⟨by rfl, ?_⟩) (by assumption) ?_
    · intro w hSw
      go_simp
      try with_reducible rfl
    simp only [Act.put, List.setIfInBounds_toArray, List.set_cons_zero, List.set_cons_succ]
    refine take_at 3 (some 40) (.int .i64 (s : Int)) rfl rfl (by kernel_rfl) (by kernel_rfl) (by kernel_rfl) (fun _ _ _ h => h) (Or.inl ⟨by rfl, ?_⟩) (by assumption) ?_
    · intro w hSw
      go_simp
      try with_reducible rfl
    simp only [Act.put, List.setIfInBounds_toArray, List.set_cons_zero, List.set_cons_succ]
    refine take_at 4 (some 41) (.int .i64 (s : Int)) rfl rfl (by kernel_rfl) (by kernel_rfl) (by kernel_rfl) (fun _ _ _ h => h) (Or.inl ⟨by rfl, ?_⟩) (by assumption) ?_
    · intro w hSw
      go_simp
      try with_reducible rfl
    simp only [Act.put, List.setIfInBounds_toArray, List.set_cons_zero, List.set_cons_succ]
    refine take_at 5 (some 42) (.int .u64 (q : Int)) rfl rfl (by kernel_rfl) (by kernel_rfl) (by kernel_rfl) (fun _ _ _ h => h) (Or.inl ⟨by rfl, ?_⟩) (by assumption) ?_
    · intro w hSw
      go_simp
      try with_reducible rfl
    simp only [Act.put, List.setIfInBounds_toArray, List.set_cons_zero, List.set_cons_succ]
    refine take_at 6 (some 43) (.int .u32 (q : Int)) rfl rfl (by kernel_rfl) (by kernel_rfl) (by kernel_rfl) (fun _ _ _ h => h) (Or.inl ⟨by rfl, ?_⟩) (by assumption) ?_
    · intro w hSw
      go_simp
      try with_reducible rfl
    simp only [Act.put, List.setIfInBounds_toArray, List.set_cons_zero, List.set_cons_succ]
    refine take_at 7 (some 44) (.pointer (some ⟨w.heap.size + 1, x.1, none⟩)) rfl rfl (by kernel_rfl) (by kernel_rfl) (by kernel_rfl) (fun _ _ _ h => h) (Or.inl ⟨by rfl, ?_⟩) (by assumption) ?_
    · intro w hSw
      go_simp
      try with_reducible rfl
    simp only [Act.put, List.setIfInBounds_toArray, List.set_cons_zero, List.set_cons_succ]
    refine wpAnyH_ready (rs := [8]) (by kernel_rfl) (by simp) ?_
    refine AllReadyH.cons rfl (fun K hK => ?_) AllReadyH.nil
    go_simp
    refine hK.out _ _ ⟨(World.cell?_setCell_far _ _ _ _ (by simp <;> omega)).trans hHeld.1, (World.cell?_setCell_far _ _ _ _ (by simp <;> omega)).trans hHeld.2.1, (World.cell?_setCell_far _ _ _ _ (by simp <;> omega)).trans hHeld.2.2⟩ (fun hHeld => ?_)
    clear hK K
    try simp only [Act.put, List.setIfInBounds_toArray, List.set_cons_zero, List.set_cons_succ]
    refine wpAnyH_done (by kernel_rfl) ?_ _
    clear hHeld
    gi_wp2
    have e1 : (W8.setCell ⟨w.heap.size + 1, x.1, none⟩ (.int .u32 (q : Int))).drew.cell? ⟨w.heap.size, 0, none⟩ = some (.int .i64 (s : Int)) := (World.cell?_setCell_far W8 _ _ _ (by simp <;> omega)).trans d1
    have e3 : (W8.setCell ⟨w.heap.size + 1, x.1, none⟩ (.int .u32 (q : Int))).drew.cell? ⟨w.heap.size + 1 + 1 + 1, 0, none⟩ = some (.int .u64 (T : Int)) := (World.cell?_setCell_far W8 _ _ _ (by simp <;> omega)).trans d3
    have h3 : (W8.setCell ⟨w.heap.size + 1, x.1, none⟩ (.int .u32 (q : Int))).drew.frozen? ⟨w.heap.size + 1 + 1 + 1, 0, none⟩ = false := by rw [World.frozen?_drew, World.frozen?_setCell]; exact g3
    clear c1 c2 c3 c4 f3 f4 d1 d2 d3 d4 g3 g4
    generalize hW9 : (W8.setCell ⟨w.heap.size + 1, x.1, none⟩ (.int .u32 (q : Int))).drew = W9 at *
    refine round_region (S := fun w' => w'.cell? ⟨w.heap.size, 0, none⟩ = some (.int .i64 (s : Int))) hmx (by kernel_rfl) (fun h => by obtain ⟨_, _, h⟩ := h; exact h) e1 (fun hHeld => ?_)
    refine take_at 1 (some 46) (.int .i64 (s : Int)) rfl rfl (by kernel_rfl) (by kernel_rfl) (by kernel_rfl) (fun _ _ _ h => h) (Or.inl ⟨by rfl, ?_⟩) (by assumption) ?_
    · intro w hSw
      go_simp
      try with_reducible rfl
    simp only [Act.put, List.setIfInBounds_toArray, List.set_cons_zero, List.set_cons_succ]
    refine take_at 2 (some 47) (.int .i64 (s : Int)) rfl rfl (by kernel_rfl) (by kernel_rfl) (by kernel_rfl) (fun _ _ _ h => h) (Or.inl ⟨by rfl, ?_⟩) (by assumption) ?_
    · intro w hSw
      go_simp
      try with_reducible rfl
    simp only [Act.put, List.setIfInBounds_toArray, List.set_cons_zero, List.set_cons_succ]
    refine take_at 3 (some 48) (.int .u64 ((2 : Int) ^ s)) rfl rfl (by kernel_rfl) (by kernel_rfl) (by kernel_rfl) (fun _ _ _ h => h) (Or.inl ⟨by rfl, ?_⟩) (by assumption) ?_
    · intro w hSw
      go_simp
      try with_reducible rfl
    simp only [Act.put, List.setIfInBounds_toArray, List.set_cons_zero, List.set_cons_succ]
    refine take_at 4 (some 49) (.int .u64 ((2 : Int) ^ s - 1)) rfl rfl (by kernel_rfl) (by kernel_rfl) (by kernel_rfl) (fun _ _ _ h => h) (Or.inl ⟨by rfl, ?_⟩) (by assumption) ?_
    · intro w hSw
      go_simp
      try with_reducible rfl
    simp only [Act.put, List.setIfInBounds_toArray, List.set_cons_zero, List.set_cons_succ]
    refine wpAnyH_ready (rs := [0]) (by kernel_rfl) (by simp) ?_
    refine AllReadyH.cons rfl (fun K hK => ?_) AllReadyH.nil
    go_simp
    refine hK.out _ _ hHeld (fun hHeld => ?_)
    clear hK K
    try simp only [Act.put, List.setIfInBounds_toArray, List.set_cons_zero, List.set_cons_succ]
    refine take_at 5 (some 50) (.int .u64 (m : Int)) rfl rfl (by kernel_rfl) (by kernel_rfl) (by kernel_rfl) (fun _ _ _ h => h) (Or.inl ⟨by rfl, ?_⟩) (by assumption) ?_
    · intro w hSw
      go_simp
      try with_reducible rfl
    simp only [Act.put, List.setIfInBounds_toArray, List.set_cons_zero, List.set_cons_succ]
    refine wpAnyH_ready (rs := [6]) (by kernel_rfl) (by simp) ?_
    refine AllReadyH.cons rfl (fun K hK => ?_) AllReadyH.nil
    go_simp
    refine hK.out _ _ ((World.cell?_setCell_far _ _ _ _ (by simp <;> omega)).trans hHeld) (fun hHeld => ?_)
    clear hK K
    try simp only [Act.put, List.setIfInBounds_toArray, List.set_cons_zero, List.set_cons_succ]
    refine wpAnyH_done (by kernel_rfl) ?_ _
    clear hHeld
    gi_wp2
    clear e1 e3 h3
    subst hW9
    subst hW8
    have ko : ∀ X : World, KeepsOthers X X.drew := fun X => ⟨Nat.le_refl _, fun _ _ h _ => h⟩
    refine ⟨(((((KeepsOthers.setCell W _ _).trans (KeepsOthers.setCell _ _ _)).trans (ko _)).trans (KeepsOthers.setCell _ _ _)).trans (ko _)).from _, ⟨((((Below.refl _ W).setCell (p := ⟨w.heap.size + 1 + 1 + 1, 0, none⟩) (by simp; omega) _).setCell (p := ⟨w.heap.size + 1, x.1, none⟩) (by simp) _).drew.setCell (p := ⟨w.heap.size + 1 + 1 + 1, 0, none⟩) (by simp; omega) _).drew, ?_⟩, ⟨_, _, St.out _ ?_, ?_, ?_, ?_⟩, (((HB.out.setCell (p := ⟨w.heap.size + 1 + 1 + 1, 0, none⟩) (by simp; omega) _).setCell (p := ⟨w.heap.size + 1, x.1, none⟩) (by simp) _).drew.setCell (p := ⟨w.heap.size + 1 + 1 + 1, 0, none⟩) (by simp; omega) _).drew⟩
    · show (World.setCell _ _ _).heap[w.heap.size + 1 + 1 + 1 + 1]? = _
      rw [Below.heap_setCell _ _ _ _ (by simp)]
      show (World.setCell _ _ _).heap[w.heap.size + 1 + 1 + 1 + 1]? = _
      rw [Below.heap_setCell _ _ _ _ (by simp; omega), Below.heap_setCell _ _ _ _ (by simp)]
    · exact ((((HS.out.arr.other (by simp; omega) _).set x.1 q).drew).other (by simp; omega) _).drew
    · exact Boxed.drew' (Boxed.far (Boxed.drew' (Boxed.far (Boxed.far hbD (by omega)) (by omega))) (by omega))
    · exact Boxed.drew' (Boxed.far (Boxed.drew' (Boxed.far (Boxed.far hbO (by omega)) (by omega))) (by omega))
    · exact Boxed.drew' (Boxed.set _ (Boxed.drew' (Boxed.far (Boxed.set _ hbR) (by omega))))
  case done =>
    rintro D ys W hD rfl ⟨⟨L, r, hS, hbD, hbO, hbR⟩, hB⟩ hK
    have hv := hS.v (by rw [dn_len (Nat.le_refl _)])
    rw [dn_len (Nat.le_refl _), Nat.sub_self] at hv
    have V1 := Lib.hid hv.fin.1
    have HS := Lib.hid hS
    have HB := Lib.hid hB
    have c2 := hbO.cell
    have c3 := hbR.cell
    have hr := hS.r1
    clear hv hB hS hmk ht0 hf0
    gi_wp2
    refine wpIn_wide.2 ?_
    go_quiet (fail)
    gi_wp2
    refine ⟨by simp, .inl ⟨_, _, rfl, run_takeDeferred (w := W.drewN nq) hK, ?_⟩⟩
    exact ⟨_, results_tmp2 rfl _ _ _, _, L, rfl, HS.out.len, HS.out.lb, V1.out, (HS.out.arr.drewN nq).own (grownBy_putObj' _ D (.deferred none)) (fun r e => by cases e; exact ⟨_, hK, rfl⟩), (below_drewN HB.out nq).trans (belowK_b (w := w) (Nat.le_refl _) (W.drewN nq) D _ _ (by simp at hD; omega) hK rfl rfl)⟩
  case stop =>
    rintro D c pre W _ _ h _
    exact h.elim
end Wd
end Go.Proofs.YtmgehfakcnmdnaaGreatDoor
/-
  What divide of package wide needs; its quick ways.
-/
namespace Go.Proofs.YtmgehfakcnmdnaaGreatDoor
namespace Wd
open Go.RowKit Lw

theorem bl_spec (x : Nat) (h0 : x ≠ 0) (h : x < 2 ^ 64) : ∃ k, Lib.bitLen x = k + 1 ∧ 2 ^ k ≤ x ∧ x < 2 ^ (k + 1) := by
  induction x using Nat.strongRecOn with
  | _ x ih =>
    rw [Lib.bitLen_half x h0 h]
    by_cases h1 : x / 2 = 0
    · refine ⟨0, ?_, by omega, by omega⟩
      rw [h1]; rfl
    · obtain ⟨k, e, h2, h3⟩ := ih (x / 2) (by omega) h1 (by omega)
      refine ⟨k + 1, by rw [e]; omega, by rw [Nat.pow_succ]; omega, by rw [Nat.pow_succ]; omega⟩
/-- The shift that sets the highest bit of a limb. -/
theorem lz_spec (y : Nat) (h0 : 0 < y) (h : y < 4294967296) : ∃ s : Nat, s ≤ 31 ∧ (32 - (Lib.bitLen y : Int)) = (s : Int) ∧ 2147483648 ≤ y * 2 ^ s ∧ y * 2 ^ s < 4294967296 := by
  obtain ⟨k, e, h1, h2⟩ := bl_spec y (by omega) (by omega)
  have hk : k < 32 := by
    rcases Nat.lt_or_ge k 32 with g | g
    · exact g
    · have : (2 : Nat) ^ 32 ≤ 2 ^ k := Nat.pow_le_pow_right (by decide) g
      have h32 : (2 : Nat) ^ 32 = 4294967296 := rfl
      omega
  have e1 : (2 : Nat) ^ k * 2 ^ (31 - k) = 2147483648 := by
    rw [← Nat.pow_add, show k + (31 - k) = 31 by omega]
  have hp := Nat.two_pow_pos (31 - k)
  refine ⟨31 - k, by omega, by rw [e]; omega, ?_, ?_⟩
  · rw [← e1]; exact Nat.mul_le_mul_right _ h1
  · have : y * 2 ^ (31 - k) < 2 ^ (k + 1) * 2 ^ (31 - k) := Nat.mul_lt_mul_of_pos_right h2 hp
    rw [Nat.pow_succ, Nat.mul_right_comm, e1] at this
    omega
theorem win_run (g n cap j k : Nat) (h : j + k ≤ cap) (hk : 0 < k) (w : World) :
    (Instr.slice 27 (.slice (some ⟨g, 0, none⟩) n cap) (some (.int .i64 (j : Int))) (some (.int .i64 ((j : Int) + (k : Int)))) none).run Tryz.prog w = .ok (.slice (some ⟨g, j, none⟩) k (cap - j)) w := by
  rw [run_slice_lh w _ (some ⟨g, 0, none⟩) n cap el_us .i64 .i64 (j : Int) ((j : Int) + (k : Int)) (by omega) (by omega) (by omega), sz_us]
  have e1 : ((j : Int) + (k : Int)).toNat = j + k := by omega
  have e : sliced (some ⟨g, 0, none⟩) j (j + k) cap 1 = .slice (some ⟨g, j, none⟩) k (cap - j) := by
    unfold sliced
    have e2 : j + k - j = k := by omega
    have e3 : (⟨g, 0, none⟩ : Addr).add j = ⟨g, j, none⟩ := by simp [Addr.add]; omega
    rw [e2, if_neg (by omega), Option.map_some, Nat.mul_one, e3]
  simp only [Result.andThen, Int.toNat_natCast, e1, e]
/-- What divide returns. -/
def DivPost (w : World) (q r : Nat) (e : Ending) (w' : World) : Prop :=
  ∃ aq cq ar cr, e = .returned (.tuple #[.slice aq (canon q).length cq, .slice ar (canon r).length cr]) ∧ Lim w' aq (canon q).length cq (canon q) ∧ Lim w' ar (canon r).length cr (canon r) ∧
    (∀ b off, aq = some ⟨b, off, none⟩ → w.heap.size ≤ b) ∧ (∀ b off, ar = some ⟨b, off, none⟩ → w.heap.size ≤ b) ∧ Below w.heap.size w w'
end Wd
end Go.Proofs.YtmgehfakcnmdnaaGreatDoor
/-
  The quick ways of divide of package wide.
-/
namespace Go.Proofs.YtmgehfakcnmdnaaGreatDoor
namespace Wd
open Go.RowKit Lw

set_option maxRecDepth 100000 in
set_option maxHeartbeats 4000000 in
theorem divide_lt (X Y : Nat) (A D : Option Addr) (na ca nb cb : Nat) (w : World) (hA : Lim w A na ca (canon X)) (hD : Lim w D nb cb (canon Y)) (hX : 0 < X) (h : X < Y) :
    Calls Tryz.prog 139 #[.slice A na ca, .slice D nb cb] w (DivPost w (X / Y) (X % Y)) := by
  have la := hA.len
  have hp : 0 < na := by rw [← la]; exact (canon_lenpos X).2 hX
  have hc := compare_walk X Y A D na ca nb cb w hA hD
  rw [cmp_lt h] at hc
  have cl := fun w' (hb : Below w.heap.size w w') => clone_walk _ _ _ _ w' (hA.below hb) hp
  have hl := lb_canon X
  have hs := hA.sm
  have e0 : X / Y = 0 := Nat.div_eq_of_lt h
  have e1 : X % Y = X := Nat.mod_eq_of_lt h
  have Cl := Lib.hid cl
  have HL := Lib.hid hl
  clear cl hl hA hD
  rw [e0, e1]
  go_enter Tryz.func139, Tryz.ntmps139
  go_wp2_with (first | (go_at_call 107; refine hc.mono ?_; rintro e w1 ⟨rfl, hb⟩; have HB := Lib.hid hb; clear hb) | (go_at_call 138; refine (Cl.out _ HB.out).mono ?_; rintro e w2 ⟨V, rfl, hO, hb⟩; have HB2 := Lib.hid (below_then HB.out hb); have hs1 := HB.out.size; have HO := Lib.hid hO; clear hb hO))
  obtain ⟨a, cap, rfl, hL, hf⟩ := own_lim HO.out HL.out (by omega)
  exact bodyPost_ret (results_tmp2 rfl _ _ _) rfl ⟨none, 0, a, cap, by rw [canon_zero]; rfl, by rw [canon_zero]; exact Lim.nil _, hL, fun b off e => by (cases e), fun b off e => by have := hf b off e; omega, HB2.out⟩
set_option maxRecDepth 100000 in
set_option maxHeartbeats 4000000 in
theorem divide_one (X Y : Nat) (A D : Option Addr) (na ca cb : Nat) (w : World) (hA : Lim w A na ca (canon X)) (hD : Lim w D 1 cb (canon Y)) (h : Y ≤ X) :
    Calls Tryz.prog 139 #[.slice A na ca, .slice D 1 cb] w (DivPost w (X / Y) (X % Y)) := by
  have ld := hD.len
  have hc := compare_walk X Y A D na ca 1 cb w hA hD
  have hge : ¬ cmpN X Y < 0 := by
    rcases Nat.lt_or_eq_of_le h with g | g
    · rw [cmp_gt g]; omega
    · rw [g, cmp_eq]; omega
  have hge' : (0 : Int) ≤ cmpN X Y := by omega
  generalize cmpN X Y = cc at hc hge'
  have hY0 : 0 < Y := (canon_lenpos Y).1 (by omega)
  obtain ⟨bD, oD, rfl, hDl, -⟩ := hD.row (by omega)
  have cD := hD.cell (k := 0) (by omega)
  have hy : (canon Y)[0]'(by omega) = Y := by
    have e := canon_pos (show Y ≠ 0 by omega)
    have h1 : canon (Y / 4294967296) = [] := by
      have := congrArg List.length e
      rw [ld, List.length_cons] at this
      exact List.length_eq_zero_iff.1 (by omega)
    have h2 := (canon_spec (Y / 4294967296)).2.2.1.1 h1
    simp only [e, List.getElem_cons_zero]
    omega
  rw [hy] at cD
  have hYb : Y < 4294967296 := by rw [← hy]; exact lb_get (lb_canon Y) (by omega)
  have cD' := fun w' (hb : Below w.heap.size w w') => (hb.cell (p := ⟨bD, oD + 0, none⟩) hDl).trans cD
  simp only [Nat.add_zero] at cD'
  have sw := fun w' (hb : Below w.heap.size w w') => short_walk (canon X) A na ca Y w' (hA.below hb) hY0 hYb
  rw [val_canon] at sw
  have hm : X % Y < 4294967296 := Nat.lt_trans (Nat.mod_lt _ hY0) hYb
  have lr : Lb [X % Y] := fun x hx => by rw [List.mem_singleton.1 hx]; exact hm
  have vr : val [X % Y] = X % Y := by simp [val]
  have tr := fun w' : World => trim_walk [X % Y] (some ⟨w'.heap.size, 0, none⟩) 1 1 (w'.alloc (.cells (us [X % Y]).toArray 91)) (Lim.new w' [X % Y] 91 1 lr (by simp) (by simp))
  rw [vr] at tr
  have tl := fun w' : World => (Lim.new w' [X % Y] 91 1 lr (by simp) (by simp)).trim
  rw [vr] at tl
  have Tl := Lib.hid tl
  have Sw := Lib.hid sw
  have CD := Lib.hid cD'
  clear sw tl cD' cD lr vr hA hD hy
  generalize X / Y = Q at *
  generalize X % Y = R at *
  have tr2 : ∀ w' : World, Calls Tryz.prog 106 #[.slice (some ⟨w'.heap.size, 0, none⟩) 1 1] (w'.alloc (.cells #[.int .u32 (R : Int)] 91)) fun e w2 => e = .returned (.slice (some ⟨w'.heap.size, 0, none⟩) (canon R).length 1) ∧ (w'.alloc (.cells #[.int .u32 (R : Int)] 91)) = w2 := tr
  clear tr
  go_enter Tryz.func139, Tryz.ntmps139
  go_wp2_with (first | (go_at_call 107; refine hc.mono ?_; rintro e w1 ⟨rfl, hb⟩; have HB := Lib.hid hb; have cd := CD.out _ hb; clear hb) | (go_at_call 154; refine (Sw.out _ HB.out).mono ?_; rintro e w2 ⟨rfl, hL, hb⟩; have HB2 := Lib.hid (below_then HB.out hb); have hs1 := HB.out.size; have HL := Lib.hid hL; clear hb hL cd) | (go_at_call 106; refine (tr2 _).mono ?_; rintro e w3 ⟨rfl, rfl⟩))
  have b3 := (Below.refl _ w2).alloc (Nat.le_refl _) (.cells #[.int .u32 (R : Int)] 91)
  have hs2 := HB2.out.size
  refine bodyPost_ret (results_tmp2 rfl _ _ _) rfl ⟨_, _, _, _, rfl, HL.out.below b3, Tl.out w2, fun b off e => by cases e; omega, fun b off e => by cases e; omega, below_then HB2.out b3⟩
end Wd
end Go.Proofs.YtmgehfakcnmdnaaGreatDoor
/-
  The long way of divide of package wide.
-/
namespace Go.Proofs.YtmgehfakcnmdnaaGreatDoor
namespace Wd
open Go.RowKit Lw

theorem Arr.grown {w w' : World} {g : Nat} {L : List Nat} {row : Option Nat} (h : Arr w g L) (hg : w.grownBy w' row) (hne : some g ≠ row) : Arr w' g L := by
  unfold Arr at h ⊢
  exact (hg.block g (lt_of_block h) hne).trans h
theorem take_run1 (a : Option Addr) (n cap k : Nat) (h : k + 1 ≤ cap) (w : World) :
    (Instr.slice 27 (.slice a n cap) none (some (.int .i64 ((k : Int) + 1))) none).run Tryz.prog w = .ok (.slice a (k + 1) cap) w := by
  have := take_run a n cap (k + 1) h w
  rwa [Int.natCast_add] at this
set_option maxRecDepth 100000 in
set_option maxHeartbeats 4000000 in
theorem divide_more (X Y : Nat) (A D : Option Addr) (na ca pb cb : Nat) (w : World) (hA : Lim w A na ca (canon X)) (hD : Lim w D (pb + 1) cb (canon Y)) (h : Y ≤ X) (hpb : 0 < pb) (hn : na + 10 ≤ 1000000) :
    Calls Tryz.prog 139 #[.slice A na ca, .slice D (pb + 1) cb] w (DivPost w (X / Y) (X % Y)) := by
  have la := hA.len
  have ld := hD.len
  have hY0 : 0 < Y := (canon_lenpos Y).1 (by omega)
  have hlen : pb + 1 ≤ na := by
    rw [← la, ← ld]
    rcases Nat.lt_or_ge (canon X).length (canon Y).length with g | g
    · have := canon_lt_of_len g; omega
    · exact g
  have hc := compare_walk X Y A D na ca (pb + 1) cb w hA hD
  have hge : ¬ cmpN X Y < 0 := by
    rcases Nat.lt_or_eq_of_le h with g | g
    · rw [cmp_gt g]; omega
    · rw [g, cmp_eq]; omega
  have hge' : (0 : Int) ≤ cmpN X Y := by omega
  generalize cmpN X Y = cc at hc hge'
  obtain ⟨bD, oD, rfl, hDl, -⟩ := hD.row (by omega)
  have cD := hD.cell (k := pb) (by omega)
  have yb := lb_get (lb_canon Y) (k := pb) (by omega)
  have y0 : (canon Y)[pb]'(by omega) ≠ 0 := by
    have := canon_last ld (by omega)
    simpa using this
  obtain ⟨s, hs, e1, t1, t2⟩ := lz_spec _ (Nat.pos_of_ne_zero y0) yb
  have lz := fun w => Tryz.bits_LeadingZeros32 ((canon Y)[pb]'(by omega) : Int) w (by omega) (by omega)
  rw [show ((canon Y)[pb]'(by omega) : Int).toNat = (canon Y)[pb]'(by omega) from Int.toNat_natCast _, e1] at lz
  have top : ∀ h : pb + 1 - 1 < (canon Y).length, 2147483648 ≤ (canon Y)[pb + 1 - 1] * 2 ^ s ∧ (canon Y)[pb + 1 - 1] * 2 ^ s < 4294967296 := fun _ => ⟨t1, t2⟩
  have Top := Lib.hid top
  clear top t1 t2 e1
  generalize (canon Y)[pb]'(by omega) = y at *
  have cD' := Lib.hid (fun w' (hb : Below w.heap.size w w') => (hb.cell (p := ⟨bD, oD + pb, none⟩) hDl).trans cD)
  have LA := Lib.hid (fun w' (hb : Below w.heap.size w w') => left_walk (canon X) A na ca s w' (hA.below hb) (by omega) (by omega))
  have LD := Lib.hid (fun w' (hb : Below w.heap.size w w') => left_walk (canon Y) (some ⟨bD, oD, none⟩) (pb + 1) cb s w' (hD.below hb) (by omega) (by omega))
  have k1 : IntKind.i64.wrap ((pb : Int) + 1 - 1) = (pb : Int) := by rw [IntWalk.i64_in _ (by omega)]; omega
  clear hA hD cD
  go_enter Tryz.func139, Tryz.ntmps139
  go_wp2_with (first | (go_at_call 107; refine hc.mono ?_; rintro e w1 ⟨rfl, hb⟩; have hB := hb; have cd := cD'.out _ hb; clear hb) | (go_at_call 155; refine (lz _).mono ?_; rintro e w' ⟨rfl, rfl⟩))
  go_region_held3 (fun w2 => Below w.heap.size w w2) (first | exact hB.drew | exact hhB | assumption) (first | (go_at_call 156; with_reducible refine (LD.out _ (by assumption)).mono ?_; rintro e wv ⟨V, Lv, rfl, lv1, lv2, lv3, lv4, hbv⟩; obtain ⟨gv, capv, hV, cv1, cv2, Rv⟩ := own_row lv4 (by omega); rw [lv1] at hV cv1; subst hV; have hsl := take_run1 (some ⟨gv, 0, none⟩) (pb + 1 + 1) capv pb (by omega); have hhB := below_then (by assumption) hbv; have HBv := Lib.hid hbv; have RV := Lib.hid Rv; have LV := Lib.hid lv3; clear hbv lv3 lv4 Rv) | (go_at_call 156; with_reducible refine (LA.out _ (by assumption)).mono ?_; rintro e wu ⟨V, Lu, rfl, lu1, lu2, lu3, lu4, hbu⟩; obtain ⟨gu, capu, hV, cu1, cu2, Ru⟩ := own_row lu4 (by omega); rw [lu1] at hV cu1; subst hV; have hgu : w.heap.size ≤ gu := Nat.le_trans (Below.size (B := w.heap.size) (w := w) (by assumption)) cu2; have hhB := below_then (by assumption) hbu; have HBu := Lib.hid hbu; have RU := Lib.hid Ru; have LU := Lib.hid lu3; clear hbu lu3 lu4 Ru))
  all_goals
    have hne : gu ≠ gv := by have h1 := RV.out.lt; have h2 := RU.out.lt; omega
    first | (have rv := RV.out.below HBu.out) | (have rv := RV.out)
    first | (have ru := RU.out.below HBv.out) | (have ru := RU.out)
    have nm := Norm.of (lb_canon Y) ld (by omega) hs lv1 lv2 LV.out Top.out
    have hz := QIn.zero (u := Lu) (V := val (Lv.take (pb + 1))) (n := pb + 1) (m := na - pb) (by omega) lu2 (nm.start (lb_canon X) LU.out (by omega))
    have hvL := rv.lim lv2 0 (pb + 1) (cap := capv) (by omega) (by omega) (by omega)
    simp only [List.drop_zero] at hvL
    have HZ := Lib.hid hz
    have HV := Lib.hid hvL
    have NM := Lib.hid nm
    have HB := Lib.hid hhB
    have RU2 := Lib.hid ru
    clear RV RU rv ru nm hz hvL LV lv2 HBv HBu hB LA LD lz cD' hc hhB Top
    obtain ⟨m, rfl⟩ : ∃ m, na = pb + m := ⟨na - pb, by omega⟩
    rw [Nat.add_sub_cancel_left] at HZ
    have hmk : ∀ w, (Instr.makeSlice 27 (.int .i64 ((pb : Int) + (m : Int) + 1 - ((pb : Int) + 1))) (.int .i64 ((pb : Int) + (m : Int) + 1 - ((pb : Int) + 1)))).run Tryz.prog w = .ok (.slice (some ⟨w.heap.size, 0, none⟩) m m) (w.alloc (.cells (nu m) 91)) := fun w => by
      have := make_nu m (by omega) w
      rwa [show (m : Int) = (pb : Int) + (m : Int) + 1 - ((pb : Int) + 1) by omega] at this
    rename World => wX
    have vX := LU.out
    have vV := NM.out.e
    rw [val_canon] at vX vV
    have fin1 : ∀ a b : Nat, a = val Lu / val (Lv.take (pb + 1)) → b = val Lu % val (Lv.take (pb + 1)) → a = X / Y ∧ b / 2 ^ s = X % Y := fun a b e1 e2 => by
      obtain ⟨q1, q2⟩ := shift_quo X Y s
      rw [e1, e2, vX, vV, q1, q2]
      exact ⟨rfl, Nat.mul_div_cancel _ (Nat.two_pow_pos s)⟩
    have Fin1 := Lib.hid fin1
    have hvlt := NM.out.lt
    have hv0 := NM.out.pos
    have hvy : ∀ h : pb < (Lv.take (pb + 1)).length, 0 < (Lv.take (pb + 1))[pb] := fun h => by
      have := NM.out.top (by simpa using h)
      simp only [Nat.add_sub_cancel] at this
      omega
    have Hvy := Lib.hid hvy
    have ruX := RU2.out.lt
    have hgvX : gv < wX.heap.size := by
      obtain ⟨b, off, e, hb, _⟩ := HV.out.row (by omega)
      cases e
      exact hb
    clear LU vX vV fin1 NM hvy
    generalize hvv : Lv.take (pb + 1) = v at *
    go_wp2
    have b1 := (Below.refl _ wX).alloc (Nat.le_refl _) (.cells (nu m) 91)
    have st : ∃ (t : Nat) (U Q : List Nat), t ≤ m ∧ Value.int .i64 ((m : Int) - 1) = .int .i64 ((t : Int) - 1) ∧ QIn (val Lu) (val v) U Q (pb + 1) m t ∧ Row (wX.alloc (.cells (nu m) 91)) gu U ∧ Arr (wX.alloc (.cells (nu m) 91)) wX.heap.size Q ∧ Lim (wX.alloc (.cells (nu m) 91)) (some ⟨gv, 0, none⟩) (pb + 1) capv v ∧ Below w.heap.size w (wX.alloc (.cells (nu m) 91)) :=
      ⟨m, Lu, _, Nat.le_refl _, rfl, HZ.out, RU2.out.below b1, Arr.nu wX m, HV.out.below b1, below_then HB.out b1⟩
    have hXs := HB.out.size
    clear HZ RU2 HV b1 HB hmk
    go_loopw [12] (fun i wr => ∃ (t : Nat) (U Q : List Nat), t ≤ m ∧ i = .int .i64 ((t : Int) - 1) ∧ QIn (val Lu) (val v) U Q (pb + 1) m t ∧ Row wr gu U ∧ Arr wr wX.heap.size Q ∧ Lim wr (some ⟨gv, 0, none⟩) (pb + 1) capv v ∧ Below w.heap.size w wr) (fun i _ => (intOf i + 1).toNat)
    case atStart => exact st
    case round =>
      clear st
      obtain ⟨t, U, Q, ht, rfl, hQ, hR, hA, hL, hB⟩ := hrel
      have lU := hQ.lu
      have lQ := hQ.lq
      cases t with
      | succ p =>
        obtain ⟨h1, h2, h3, h4⟩ := hQ.high (by omega) hvlt
        have hw : ∀ w, (Instr.slice 27 (.slice (some ⟨gu, 0, none⟩) (pb + m + 1) capu) (some (.int .i64 (p : Int))) (some (.int .i64 ((p : Int) + ((pb : Int) + 1) + 1))) none).run Tryz.prog w = .ok (.slice (some ⟨gu, p, none⟩) (pb + 1 + 1) (capu - p)) w := fun w => by
          have := win_run gu (pb + m + 1) capu p (pb + 1 + 1) (by omega) (by omega) w
          rwa [show (p : Int) + ((pb + 1 + 1 : Nat) : Int) = (p : Int) + ((pb : Int) + 1) + 1 by omega] at this
        have sw := Lib.hid (step_walk U v gu p (capu - p) pb capv (some ⟨gv, 0, none⟩) wr hR hQ.bu (by omega) (by omega) (by omega) hL (fun b off e => by cases e; omega) Hvy.out h4)
        have e1 : (((p + 1 : Nat)) : Int) - 1 = (p : Int) := by omega
        have e2 : IntKind.i64.wrap ((p : Int) - 1) = (p : Int) - 1 := IntWalk.i64_in _ (by omega)
        have k2 : (0 : Int) ≤ (p : Int) := by omega
        have k3 : (p : Int) < (m : Int) := by omega
        have HQ := Lib.hid hQ
        have HA := Lib.hid hA
        have HL := Lib.hid hL
        have HB := Lib.hid hB
        clear hQ hR hA hL hB h2 h3 h4
        rw [e1]
        go_wp2_with (go_at_call 157; refine sw.out.mono ?_; rintro e w3 ⟨rfl, ⟨r, hr1, hr2, hr3, hr4⟩, hgr⟩; have aq3 := HA.out.grown hgr (by simp; omega); obtain ⟨lx, cq⟩ : ∃ lx : Nat, w3.cell? ⟨wX.heap.size, p, none⟩ = some (.int .u32 (lx : Int)) := ⟨_, aq3.cell (by omega)⟩; have fq := aq3.free p; have HA3 := Lib.hid aq3; have HR3 := Lib.hid hr4; have HG := Lib.hid hgr; have HB3 := Lib.hid (HB.out.grown hgr HB.out.size (fun k e => by cases e; omega)); have HV3 := Lib.hid hr3; clear aq3 hr4 hgr hr3)
        go_roundw
        case rel => exact ⟨p, _, _, by omega, rfl, HQ.out.step (by omega) hvlt hv0 hr1 hr2 HV3.out, HR3.out.other (by simp; omega) _, HA3.out.set p _, (HL.out.grown HG.out (fun b off e => by cases e; omega)).grown (grownBy_set2 _ _ _ _) (fun b off e => by cases e; omega), HB3.out.setCell (p := ⟨wX.heap.size, p, none⟩) (by simp; omega) _⟩
        case measure => simp [intOf]
      | zero =>
        obtain ⟨f1, f2⟩ := hQ.fin
        obtain ⟨g1, g2⟩ := Fin1.out _ _ f1 f2
        have limU := hR.lim0 hQ.bu (cap := capu) (by omega) (by omega)
        rw [lU, show pb + 1 + m = pb + m + 1 by omega] at limU
        have tu := trim_walk U (some ⟨gu, 0, none⟩) (pb + m + 1) capu wr limU
        have rw1 := Lib.hid (right_walk (canon (val U)) (some ⟨gu, 0, none⟩) _ capu s wr limU.trim hs)
        have limQ := hA.lim hQ.bq (cap := m) (by omega) (by omega)
        rw [lQ] at limQ
        have tq := Lib.hid (fun w' (hb : Below wr.heap.size wr w') => trim_walk Q (some ⟨wX.heap.size, 0, none⟩) m m w' (limQ.below hb))
        have tl := Lib.hid (fun w' (hb : Below wr.heap.size wr w') => (limQ.below hb).trim)
        have HB := Lib.hid hB
        have G1 := Lib.hid g1
        have G2 := Lib.hid g2
        have HQ := Lib.hid hQ
        clear hQ hR hA hL hB limU limQ f1 f2 g1 g2
        have hkb : (canon (val U)).length ≤ 1000000 := by have := canon_le U HQ.out.bu; omega
        generalize hku : (canon (val U)).length = ku at *
        go_wp2_with (first | (go_at_call 158; refine rw1.out.mono ?_; rintro e w3 ⟨bb, L, rfl, l1, l2, l3, l4, hb⟩; have HL3 := Lib.hid l3; have HA3 := Lib.hid l4; have HB3 := Lib.hid hb; clear l3 l4 hb) | (go_at_call 106; first | (with_reducible refine tu.mono ?_; rintro e w' ⟨rfl, rfl⟩; clear tu) | (with_reducible refine (tq.out _ HB3.out).mono ?_; rintro e w' ⟨rfl, rfl⟩) | (have limR := HA3.out.lim l2 (cap := ku) (by omega) (by omega); rw [l1] at limR; with_reducible refine (trim_walk L (some ⟨wr.heap.size + 1, 0, none⟩) ku ku _ limR).mono ?_; rintro e w' ⟨rfl, rfl⟩)))
        have hvL : val L = X % Y := by rw [HL3.out, val_canon]; exact G2.out
        have hws := HB.out.size
        rw [← G1.out, ← hvL]
        exact bodyPost_ret (results_tmp2 rfl _ _ _) rfl ⟨_, _, _, _, rfl, tl.out _ HB3.out, limR.trim, fun b off e => by cases e; omega, fun b off e => by cases e; omega, below_then HB.out HB3.out⟩
end Wd
end Go.Proofs.YtmgehfakcnmdnaaGreatDoor
/-
  divide of package wide.
-/
namespace Go.Proofs.YtmgehfakcnmdnaaGreatDoor
namespace Wd
open Go.RowKit Lw

theorem divide_walk (X Y : Nat) (A D : Option Addr) (na ca nb cb : Nat) (w : World) (hA : Lim w A na ca (canon X)) (hD : Lim w D nb cb (canon Y)) (hX : 0 < X) (hY : 0 < Y) (hn : na + 10 ≤ 1000000) :
    Calls Tryz.prog 139 #[.slice A na ca, .slice D nb cb] w (DivPost w (X / Y) (X % Y)) := by
  rcases Nat.lt_or_ge X Y with h | h
  · exact divide_lt X Y A D na ca nb cb w hA hD hX h
  · have hb : 0 < nb := by rw [← hD.len]; exact (canon_lenpos Y).2 hY
    obtain ⟨pb, rfl⟩ : ∃ pb, nb = pb + 1 := ⟨nb - 1, by omega⟩
    rcases Nat.eq_zero_or_pos pb with rfl | hp
    · exact divide_one X Y A D na ca cb w hA hD h
    · exact divide_more X Y A D na ca pb cb w hA hD h hp hn
end Wd
end Go.Proofs.YtmgehfakcnmdnaaGreatDoor
/-
  The walks of add and Add of package wide.
-/
namespace Go.Proofs.YtmgehfakcnmdnaaGreatDoor
namespace Wd
open Go.RowKit Lw

theorem add_same {z1 z2 : Int} (h : decide (z1 < 0) = decide (z2 < 0)) : (z1 + z2).natAbs = z1.natAbs + z2.natAbs ∧ sgn (decide (z1 < 0)) (z1 + z2).natAbs = z1 + z2 := by
  by_cases h1 : z1 < 0
  · have h2 : z2 < 0 := by rw [decide_eq_true h1] at h; exact of_decide_eq_true h.symm
    simp only [h1, decide_true, sgn, if_true]; omega
  · have h2 : ¬ z2 < 0 := by rw [decide_eq_false h1] at h; exact of_decide_eq_false h.symm
    simp only [h1, decide_false, sgn, if_false, Bool.false_eq_true]; omega
theorem add_diff {z1 z2 : Int} (h : ¬ decide (z1 < 0) = decide (z2 < 0)) (hle : z2.natAbs ≤ z1.natAbs) : (z1 + z2).natAbs = z1.natAbs - z2.natAbs ∧ sgn (decide (z1 < 0)) (z1 + z2).natAbs = z1 + z2 := by
  by_cases h1 : z1 < 0 <;> by_cases h2 : z2 < 0
  · simp [h1, h2] at h
  · simp only [h1, decide_true, sgn, if_true]; omega
  · simp only [h1, decide_false, sgn, if_false, Bool.false_eq_true]; omega
  · simp [h1, h2] at h
theorem canon_mono {A B : Nat} (h : A ≤ B) : (canon A).length ≤ (canon B).length := by
  rcases Nat.lt_or_ge (canon B).length (canon A).length with g | g
  · have := canon_lt_of_len g; omega
  · exact g
set_option maxRecDepth 100000 in
set_option maxHeartbeats 4000000 in
theorem add_walk (V1 V2 : Value) (z1 z2 : Int) (w : World) (h1 : Wide 0 w V1 z1) (h2 : Wide 0 w V2 z2) (hle : z2.natAbs ≤ z1.natAbs) (hn : (canon z1.natAbs).length + 1 ≤ 4096) :
    Calls Tryz.prog 74 #[V1, V2] w (NumPost w (z1 + z2)) := by
  obtain ⟨a, n, ca, rfl, hA, -⟩ := h1
  obtain ⟨d, m, cd, rfl, hD, -⟩ := h2
  have la := hA.len
  have ld := hD.len
  have hmn := canon_mono hle
  rw [la, ld] at hmn
  rw [la] at hn
  have hS0 := BX.new w (decide (z1 < 0)) (decide (z2 < 0)) (.slice a n ca) (.slice d m cd)
  have HA := Lib.hid hA
  have HD := Lib.hid hD
  have HS := Lib.hid hS0
  have hvle : val (canon z2.natAbs) ≤ val (canon z1.natAbs) := by rw [val_canon, val_canon]; exact hle
  have Hv := Lib.hid hvle
  have Hle := Lib.hid hle
  have KA := fun w' (h : BX w (decide (z1 < 0)) (decide (z2 < 0)) (.slice a n ca) (.slice d m cd) w') => HA.out.below h.below
  have KD := fun w' (h : BX w (decide (z1 < 0)) (decide (z2 < 0)) (.slice a n ca) (.slice d m cd) w') => HD.out.below h.below
  have hcmp := Lib.hid (compare_walk _ _ a d n ca m cd _ (KA _ hS0) (KD _ hS0))
  have hge : ¬ cmpN z1.natAbs z2.natAbs < 0 := by
    rcases Nat.lt_or_eq_of_le hle with g | g
    · rw [cmp_gt g]; omega
    · rw [g, cmp_eq]; omega
  have hge' : (0 : Int) ≤ cmpN z1.natAbs z2.natAbs := by omega
  generalize cmpN z1.natAbs z2.natAbs = cc at hcmp hge'
  have same := @add_same z1 z2
  have diff := @add_diff z1 z2
  have Hsame := Lib.hid same
  have Hdiff := Lib.hid diff
  clear hA hD hS0 hvle hle KA KD hge same diff
  generalize hn1 : decide (z1 < 0) = n1 at *
  generalize hn2 : decide (z2 < 0) = n2 at *
  have N1 := Lib.hid hn1
  have N2 := Lib.hid hn2
  clear hn1 hn2
  go_enter Tryz.func74, Tryz.ntmps74
  go_wp2_with (go_at_call 107; refine hcmp.out.mono ?_; rintro e w1 ⟨rfl, hb⟩; have hS := HS.out.call hb; have s0 := hS.x0; have s1 := hS.y0; clear hb)
  · have Hq := Lib.hid (show n1 = n2 from eq_of_beq (by assumption))
    have KA := fun w' (h : BXS w n1 n2 (.slice a n ca) (.slice d m cd) w') => HA.out.below h.2.2.2.2.2.2.2.2.below
    have KD := fun w' (h : BXS w n1 n2 (.slice a n ca) (.slice d m cd) w') => HD.out.below h.2.2.2.2.2.2.2.2.below
    have KC := fun w' w2 (h : BXS w n1 n2 (.slice a n ca) (.slice d m cd) w') (hb : Below w'.heap.size w' w2) => h.2.2.2.2.2.2.2.2.call hb
    have nl : ∀ L : List Nat, Lb L → L.length = n + 1 → (canon (val L)).length ≤ 4096 := fun L h1 h2 => by have := canon_le L h1; omega
    have nc : ∀ L : List Nat, ∀ w2 g, Arr w2 g L → Lb L → L.length = n + 1 → Lim w2 (some ⟨g, 0, none⟩) (n + 1) (n + 1) L := fun L w2 g h1 h2 h3 => by have := h1.lim (cap := n + 1) h2 (by omega) (by omega); rwa [h3] at this
    clear s0 s1
    go_region_held3 (fun w' => w'.cell? ⟨w.heap.size, 0, none⟩ = some (.bool n1) ∧ w'.cell? ⟨w.heap.size, 1, none⟩ = some (.slice a n ca) ∧ w'.cell? ⟨w.heap.size + 1, 0, none⟩ = some (.bool n2) ∧ w'.cell? ⟨w.heap.size + 1, 1, none⟩ = some (.slice d m cd) ∧ w'.cell? ⟨w.heap.size + 2, 0, none⟩ = some (cellOf w' ⟨w.heap.size + 2, 0, none⟩) ∧ w'.cell? ⟨w.heap.size + 2, 1, none⟩ = some (cellOf w' ⟨w.heap.size + 2, 1, none⟩) ∧ w'.frozen? ⟨w.heap.size + 2, 0, none⟩ = false ∧ w'.frozen? ⟨w.heap.size + 2, 1, none⟩ = false ∧ BX w n1 n2 (.slice a n ca) (.slice d m cd) w') (first | exact BX.s (BX.drew hS) | exact BX.s hS | exact BX.s hk2 | exact BX.s hk | exact BX.s (BX.set (BX.set hk2 _ _) _ _) | exact BX.s (by assumption)) (first | (go_at_call 108; refine (plus_walk _ _ _ _ n ca m cd _ (KA _ (by assumption)) (KD _ (by assumption)) (by omega) hmn).mono ?_; rintro e w' ⟨L, rfl, hL1, hL2, hL3, hL4, hb⟩; have hk := KC _ _ (by assumption) hb; have HL3 := Lib.hid hL3; clear hb hL3) | (go_at_call 72; refine (made_walk _ L _ _ _ _ (nc L _ _ hL4 hL2 hL1) (nl L hL2 hL1)).mono ?_; rintro e w' ⟨rfl, hM, hb⟩; have hk2 := BX.call hk hb; clear hb))
    have e : val L = (z1 + z2).natAbs := by rw [HL3.out, val_canon, val_canon, (Hsame.out Hq.out).1]
    have SM := (Hsame.out Hq.out).2
    have hs := hS.size
    clear HL3
    rw [e] at hM ⊢
    rw [SM]
    have F := Lib.hid (num_fin hk2 hM (by simpa using hs))
    clear hM SM
    go_wp2_with fail
    exact bodyPost_ret (ret_cell_tmp Tryz.results74 _ _ (w.heap.size + 2) [.bool _, .slice _ _ _] _ rfl F.out.1 Tryz.underlying29 rfl infoW) rfl F.out.2
  · have Hq := Lib.hid (show ¬ n1 = n2 from ne_of_beq_false (by assumption))
    have KA := fun w' (h : BXS w n1 n2 (.slice a n ca) (.slice d m cd) w') => HA.out.below h.2.2.2.2.2.2.2.2.below
    have KD := fun w' (h : BXS w n1 n2 (.slice a n ca) (.slice d m cd) w') => HD.out.below h.2.2.2.2.2.2.2.2.below
    have KC := fun w' w2 (h : BXS w n1 n2 (.slice a n ca) (.slice d m cd) w') (hb : Below w'.heap.size w' w2) => h.2.2.2.2.2.2.2.2.call hb
    have nl : ∀ L : List Nat, Lb L → L.length = n → (canon (val L)).length ≤ 4096 := fun L h1 h2 => by have := canon_le L h1; omega
    have nc : ∀ L : List Nat, ∀ w2 g, Arr w2 g L → Lb L → L.length = n → Lim w2 (some ⟨g, 0, none⟩) (n) (n) L := fun L w2 g h1 h2 h3 => by have := h1.lim (cap := n) h2 (by omega) (by omega); rwa [h3] at this
    clear s0 s1
    go_region_held3 (fun w' => w'.cell? ⟨w.heap.size, 0, none⟩ = some (.bool n1) ∧ w'.cell? ⟨w.heap.size, 1, none⟩ = some (.slice a n ca) ∧ w'.cell? ⟨w.heap.size + 1, 0, none⟩ = some (.bool n2) ∧ w'.cell? ⟨w.heap.size + 1, 1, none⟩ = some (.slice d m cd) ∧ w'.cell? ⟨w.heap.size + 2, 0, none⟩ = some (cellOf w' ⟨w.heap.size + 2, 0, none⟩) ∧ w'.cell? ⟨w.heap.size + 2, 1, none⟩ = some (cellOf w' ⟨w.heap.size + 2, 1, none⟩) ∧ w'.frozen? ⟨w.heap.size + 2, 0, none⟩ = false ∧ w'.frozen? ⟨w.heap.size + 2, 1, none⟩ = false ∧ BX w n1 n2 (.slice a n ca) (.slice d m cd) w') (first | exact BX.s (BX.drew hS) | exact BX.s hS | exact BX.s hk2 | exact BX.s hk | exact BX.s (BX.set (BX.set hk2 _ _) _ _) | exact BX.s (by assumption)) (first | (go_at_call 109; refine (minus_walk _ _ _ _ n ca m cd _ (KA _ (by assumption)) (KD _ (by assumption)) hmn Hv.out).mono ?_; rintro e w' ⟨L, rfl, hL1, hL2, hL3, hL4, hb⟩; have hk := KC _ _ (by assumption) hb; have HL3 := Lib.hid hL3; clear hb hL3) | (go_at_call 72; refine (made_walk _ L _ _ _ _ (nc L _ _ hL4 hL2 hL1) (nl L hL2 hL1)).mono ?_; rintro e w' ⟨rfl, hM, hb⟩; have hk2 := BX.call hk hb; clear hb))
    have e : val L = (z1 + z2).natAbs := by rw [HL3.out, val_canon, val_canon, (Hdiff.out Hq.out Hle.out).1]
    have SM := (Hdiff.out Hq.out Hle.out).2
    have hs := hS.size
    clear HL3
    rw [e] at hM ⊢
    rw [SM]
    have F := Lib.hid (num_fin hk2 hM (by simpa using hs))
    clear hM SM
    go_wp2_with fail
    exact bodyPost_ret (ret_cell_tmp Tryz.results74 _ _ (w.heap.size + 2) [.bool _, .slice _ _ _] _ rfl F.out.1 Tryz.underlying29 rfl infoW) rfl F.out.2
end Wd
end Go.Proofs.YtmgehfakcnmdnaaGreatDoor
/-
  The walk of Add of package wide.
-/
namespace Go.Proofs.YtmgehfakcnmdnaaGreatDoor
namespace Wd
open Go.RowKit Lw

theorem num_fin2 {w w' : World} {x y : Bool} {u v : Value} {a : Option Addr} {k cap : Nat} {z : Int} (h : BX w x y u v w') (hM : Lim w' a k cap (canon z.natAbs)) (hg : ∀ b off, a = some ⟨b, off, none⟩ → w.heap.size + 3 ≤ b) :
    World.rangeAt (w'.setCells (w.heap.size + 2) 0 [.bool (decide (z < 0)), .slice a k cap]) (w.heap.size + 2) 0 [.bool (decide (z < 0)), .slice a k cap] ∧
    NumPost w z (.returned (.tuple #[.agg #[.bool (decide (z < 0)), .slice a k cap], .int .i64 0])) (w'.setCells (w.heap.size + 2) 0 [.bool (decide (z < 0)), .slice a k cap]) :=
  ⟨World.rangeAt_setCells_same _ _ _ _ h.th, _, rfl, ⟨_, k, cap, rfl, hM.setCells (fun b off e => by have := hg b off e; omega) _ _, fun b off e => by have := hg b off e; omega⟩, below_setCells _ (by omega) _ _ _ h.below⟩
/-- Two whole numbers and the row of them that check takes. -/
theorem two_row (z1 z2 : Int) (a d : Option Addr) (n ca m cd : Nat) (w : World) (hA : Lim w a n ca (canon z1.natAbs)) (hD : Lim w d m cd (canon z2.natAbs)) (hn : n ≤ 4096) (hm : m ≤ 4096) :
    WRow ((((w.alloc (.cells #[.bool (decide (z1 < 0)), .slice a n ca] 29)).alloc (.cells #[.bool (decide (z2 < 0)), .slice d m cd] 29)).alloc (.cells #[.bool false, .slice none 0 0] 29)).alloc (.cells #[.bool (decide (z1 < 0)), .slice a n ca, .bool (decide (z2 < 0)), .slice d m cd] 29)) (w.heap.size + 3) 2 (fun k => if k = 0 then z1 else z2) := by
  have hS0 := BX.new w (decide (z1 < 0)) (decide (z2 < 0)) (.slice a n ca) (.slice d m cd)
  have hsz : (((w.alloc (.cells #[.bool (decide (z1 < 0)), .slice a n ca] 29)).alloc (.cells #[.bool (decide (z2 < 0)), .slice d m cd] 29)).alloc (.cells #[.bool false, .slice none 0 0] 29)).heap.size = w.heap.size + 3 := by simp
  have r := rangeAt_new (((w.alloc (.cells #[.bool (decide (z1 < 0)), .slice a n ca] 29)).alloc (.cells #[.bool (decide (z2 < 0)), .slice d m cd] 29)).alloc (.cells #[.bool false, .slice none 0 0] 29)) [.bool (decide (z1 < 0)), .slice a n ca, .bool (decide (z2 < 0)), .slice d m cd] 29
  rw [hsz] at r
  have hb := hS0.row.below
  refine ⟨by simp, fun k hk => ?_⟩
  match k, hk with
  | 0, _ => exact ⟨a, n, ca, r 0 _ rfl, r 1 _ rfl, hA.below hb, hn⟩
  | 1, _ => exact ⟨d, m, cd, r 2 _ rfl, r 3 _ rfl, hD.below hb, hm⟩
set_option maxRecDepth 100000 in
set_option maxHeartbeats 4000000 in
theorem addW_walk (V1 V2 : Value) (z1 z2 : Int) (w : World) (h1 : Wide 0 w V1 z1) (h2 : Wide 0 w V2 z2) (hle : z2.natAbs ≤ z1.natAbs) (hn : (canon z1.natAbs).length + 1 ≤ 4096) :
    Calls Tryz.prog 45 #[V1, V2] w (NumPost w (z1 + z2)) := by
  have hmn := canon_mono hle
  obtain ⟨a, n, ca, rfl, hA, -⟩ := h1
  obtain ⟨d, m, cd, rfl, hD, -⟩ := h2
  have la := hA.len
  have ld := hD.len
  rw [la, ld] at hmn
  have hS0 := BX.new w (decide (z1 < 0)) (decide (z2 < 0)) (.slice a n ca) (.slice d m cd)
  have HC := Lib.hid (check_walk _ _ 2 2 _ (two_row z1 z2 a d n ca m cd w hA hD (by omega) (by omega)) (by omega))
  have HS := Lib.hid hS0.row
  have HA := Lib.hid hA
  have HD := Lib.hid hD
  have AW := Lib.hid (fun w' hA hD => add_walk (.agg #[.bool (decide (z1 < 0)), .slice a n ca]) (.agg #[.bool (decide (z2 < 0)), .slice d m cd]) z1 z2 w' ⟨a, n, ca, rfl, hA, fun _ _ _ => Nat.zero_le _⟩ ⟨d, m, cd, rfl, hD, fun _ _ _ => Nat.zero_le _⟩ hle hn)
  clear hA hD hS0 hle hn hmn
  generalize decide (z1 < 0) = n1 at *
  generalize decide (z2 < 0) = n2 at *
  go_enter Tryz.func45, Tryz.ntmps45
  go_wp2_with fail
  refine HC.out.mono ?_
  rintro e w1 ⟨rfl, hb⟩
  have hS := HS.out.call hb
  obtain ⟨s1, s2, s3, s4, -⟩ := hS.s
  have hs := hS.size
  have aw := AW.out w1 (HA.out.below hS.below) (HD.out.below hS.below)
  have HSS := Lib.hid hS
  clear hb HS HC hS
  go_wp2_with fail
  refine aw.mono ?_
  rintro e w2 ⟨V, rfl, ⟨a', k, cap, rfl, hM, hg⟩, hb⟩
  have hS2 := HSS.out.call hb
  obtain ⟨-, -, -, -, s5, s6, s7, s8, -⟩ := hS2.s
  have F := Lib.hid (num_fin2 hS2 hM (fun b off e => Nat.le_trans hs (hg b off e)))
  clear s1 s2 s3 s4 aw hb hM hg HSS hS2
  go_wp2_with fail
  exact bodyPost_ret (ret_cell_tmp Tryz.results45 _ _ (w.heap.size + 2) [.bool _, .slice _ _ _] _ rfl F.out.1 Tryz.underlying29 rfl infoW) rfl F.out.2
end Wd
end Go.Proofs.YtmgehfakcnmdnaaGreatDoor
/-
  The walk of Gcd of package wide, of numbers above zero.
-/
namespace Go.Proofs.YtmgehfakcnmdnaaGreatDoor
namespace Wd
open Go.RowKit Lw

/-- The number in a slice, read off the memory. -/
def rdv (w : World) : Value → Nat
  | .slice (some a) n _ => val ((List.range n).map fun k => match w.cell? ⟨a.block, a.off + k, none⟩ with | some (.int _ x) => x.toNat | _ => 0)
  | _ => 0
theorem rdv_lim {w : World} {a : Option Addr} {n cap : Nat} {l : List Nat} (h : Lim w a n cap l) : rdv w (.slice a n cap) = val l := by
  have hl := h.len
  cases a with
  | none =>
    have : n = 0 := by
      rcases Nat.eq_zero_or_pos n with g | g
      · exact g
      · obtain ⟨_, _, e, _⟩ := h.row g; cases e
    subst this
    rw [List.length_eq_zero_iff.1 hl]; rfl
  | some a =>
    show val _ = val l
    congr 1
    apply List.ext_getElem
    · simp [hl]
    · intro i h1 h2
      obtain ⟨b, off, e, _, _⟩ := h.row (by omega)
      cases e
      rw [List.getElem_map, List.getElem_range]
      simp only [h.cell h2, Int.toNat_natCast]
theorem gcd_step (P Q : Nat) : Nat.gcd Q (P % Q) = Nat.gcd P Q := by rw [Nat.gcd_comm Q, ← Nat.gcd_rec, Nat.gcd_comm]
set_option maxRecDepth 100000 in
set_option maxHeartbeats 4000000 in
theorem gcd_walk (V1 V2 : Value) (X Y : Nat) (w : World) (h1 : Wide 0 w V1 (X : Int)) (h2 : Wide 0 w V2 (Y : Int)) (hX : 0 < X) (hY : 0 < Y) (hx : (canon X).length ≤ 4000) (hy : (canon Y).length ≤ 4000) :
    Calls Tryz.prog 111 #[V1, V2] w (NumPost w ((Nat.gcd X Y : Nat) : Int)) := by
  obtain ⟨a, n, ca, rfl, hA, -⟩ := h1
  obtain ⟨d, m, cd, rfl, hD, -⟩ := h2
  have la := hA.len
  have ld := hD.len
  rw [Int.natAbs_natCast] at la ld hA hD
  have hS0 := BX.new w (decide ((X : Int) < 0)) (decide ((Y : Int) < 0)) (.slice a n ca) (.slice d m cd)
  have HC := Lib.hid (check_walk _ _ 2 2 _ (two_row (X : Int) (Y : Int) a d n ca m cd w hA hD (by omega) (by omega)) (by omega))
  have HS := Lib.hid hS0.row
  have HA := Lib.hid hA
  have HD := Lib.hid hD
  have np : 0 < n := by rw [← la]; exact (canon_lenpos X).2 hX
  clear hA hD hS0
  generalize decide ((X : Int) < 0) = n1 at *
  generalize decide ((Y : Int) < 0) = n2 at *
  go_enter Tryz.func111, Tryz.ntmps111
  go_wp2_with fail
  refine HC.out.mono ?_
  rintro e w1 ⟨rfl, hb⟩
  have hS := HS.out.call hb
  clear hb HS HC
  go_wp2_with fail
  have KA := fun w' (h : BXS w n1 n2 (.slice a n ca) (.slice d m cd) w') => HA.out.below h.2.2.2.2.2.2.2.2.below
  have KC := fun w' w2 (h : BXS w n1 n2 (.slice a n ca) (.slice d m cd) w') (hb : Below w'.heap.size w' w2) => h.2.2.2.2.2.2.2.2.call hb
  go_region_held3 (fun w' => w'.cell? ⟨w.heap.size, 0, none⟩ = some (.bool n1) ∧ w'.cell? ⟨w.heap.size, 1, none⟩ = some (.slice a n ca) ∧ w'.cell? ⟨w.heap.size + 1, 0, none⟩ = some (.bool n2) ∧ w'.cell? ⟨w.heap.size + 1, 1, none⟩ = some (.slice d m cd) ∧ w'.cell? ⟨w.heap.size + 2, 0, none⟩ = some (cellOf w' ⟨w.heap.size + 2, 0, none⟩) ∧ w'.cell? ⟨w.heap.size + 2, 1, none⟩ = some (cellOf w' ⟨w.heap.size + 2, 1, none⟩) ∧ w'.frozen? ⟨w.heap.size + 2, 0, none⟩ = false ∧ w'.frozen? ⟨w.heap.size + 2, 1, none⟩ = false ∧ BX w n1 n2 (.slice a n ca) (.slice d m cd) w') (first | exact BX.s (BX.drew hS) | exact BX.s hS | exact BX.s hk | exact BX.s (by assumption)) (first | (go_at_call 138; refine (clone_walk _ _ n ca _ (KA _ (by assumption)) np).mono ?_; rintro e w' ⟨V, rfl, hO, hb⟩; have hk := KC _ _ (by assumption) hb; have HO := Lib.hid hO; clear hb hO))
  obtain ⟨vx, cx, rfl, lx, -⟩ := own_lim HO.out (lb_canon X) (by omega)
  rw [la]  at lx
  have st : ∃ (P Q : Nat) (ax : Option Addr) (nx cx : Nat) (ay : Option Addr) (ny cy : Nat), Value.slice vx n _ = .slice ax nx cx ∧ Value.slice d m cd = .slice ay ny cy ∧ Lim w' ax nx cx (canon P) ∧ Lim w' ay ny cy (canon Q) ∧ 0 < P ∧ Nat.gcd P Q = Nat.gcd X Y ∧ nx ≤ 4000 ∧ ny ≤ 4000 ∧ BX w n1 n2 (.slice a n ca) (.slice d m cd) w' :=
    ⟨X, Y, vx, n, _, d, m, cd, rfl, rfl, lx, HD.out.below hk.below, hX, rfl, by omega, by omega, hk⟩
  rw [la]
  have ST := Lib.hid st
  clear st lx HO KA KC hS hk
  go_wp2
  go_loopw [7, 8] (fun x y wr => ∃ (P Q : Nat) (ax : Option Addr) (nx cx : Nat) (ay : Option Addr) (ny cy : Nat), x = .slice ax nx cx ∧ y = .slice ay ny cy ∧ Lim wr ax nx cx (canon P) ∧ Lim wr ay ny cy (canon Q) ∧ 0 < P ∧ Nat.gcd P Q = Nat.gcd X Y ∧ nx ≤ 4000 ∧ ny ≤ 4000 ∧ BX w n1 n2 (.slice a n ca) (.slice d m cd) wr) (fun _ y wr => rdv wr y)
  case atStart => exact ST.out
  case round =>
    clear ST
    obtain ⟨P, Q, ax, nx, cx, ay, ny, cy, rfl, rfl, hP, hQ, p0, hg, bx, by', hB⟩ := hrel
    have lq := hQ.len
    have lp := hP.len
    have mq := rdv_lim hQ
    rw [val_canon] at mq
    have HB := Lib.hid hB
    have HQ := Lib.hid hQ
    have HP := Lib.hid hP
    clear hB hP hQ
    by_cases hq : 0 < ny
    · have q0 : 0 < Q := (canon_lenpos Q).1 (by omega)
      have dv := divide_walk P Q ax ay nx cx ny cy wr HP.out HQ.out p0 q0 (by omega)
      have k1 : (0 : Int) < (ny : Int) := by omega
      have hm : (canon (P % Q)).length ≤ 4000 := Nat.le_trans (canon_mono (Nat.le_of_lt (Nat.mod_lt _ q0))) (by omega)
      have MQ := Lib.hid mq
      clear mq
      go_wp2_with (go_at_call 139; refine dv.mono ?_; rintro e w3 ⟨aq, cq, ar, cr, rfl, l1, l2, f1, f2, hb⟩; have L2 := Lib.hid l2; have HBB := Lib.hid hb; clear l1 l2 f1 f2 hb)
      go_roundw
      case rel => exact ⟨Q, P % Q, ay, ny, cy, ar, _, cr, rfl, rfl, HQ.out.below HBB.out, L2.out, q0, by rw [gcd_step]; exact hg, by', hm, HB.out.call HBB.out⟩
      case measure =>
        rw [MQ.out, rdv_lim L2.out, val_canon]
        exact Nat.mod_lt _ q0
    · obtain rfl : ny = 0 := by omega
      have q0 : Q = 0 := by
        rcases Nat.eq_zero_or_pos Q with g | g
        · exact g
        · have := (canon_lenpos Q).2 g; omega
      subst q0
      rw [Nat.gcd_zero_right] at hg
      have np : 0 < nx := by rw [← lp]; exact (canon_lenpos P).2 p0
      have cl := Lib.hid (clone_walk _ _ _ _ wr HP.out np)
      go_wp2_with fail
      refine cl.out.mono ?_
      rintro e w3 ⟨V, rfl, hO, hb⟩
      have hB3 := HB.out.call hb
      have hs3 := HB.out.size
      obtain ⟨az, cz, rfl, lz, fz⟩ := own_lim hO (lb_canon P) (by omega)
      rw [lp] at lz ⊢
      have mw := made_walk false (canon P) az nx cz w3 lz (by rw [val_canon]; omega)
      rw [val_canon, show sgn false P = (P : Int) from rfl] at mw
      have MW := Lib.hid mw
      have HB3 := Lib.hid hB3
      clear mw hB3 hb hO lz mq
      go_wp2_with fail
      refine MW.out.mono ?_
      rintro e w4 ⟨rfl, hM, hb4⟩
      rw [val_canon, lp] at hM ⊢
      have hB4 := HB3.out.call hb4
      have F := Lib.hid (num_fin2 (z := (P : Int)) hB4 (by rw [Int.natAbs_natCast]; exact hM) (fun b off e => Nat.le_trans hs3 (fz b off e)))
      obtain ⟨-, -, -, -, s5, s6, s7, s8, -⟩ := hB4.s
      have hPn : decide ((P : Int) < 0) = false := decide_eq_false (by omega)
      rw [hPn] at F ⊢
      clear hM hb4 hB4 hPn
      go_wp2_with fail
      have F2 := F.out.2
      rw [hg] at F2
      exact bodyPost_ret (ret_cell_tmp Tryz.results111 _ _ (w.heap.size + 2) [.bool _, .slice _ _ _] _ rfl F.out.1 Tryz.underlying29 rfl infoW) rfl F2
end Wd
end Go.Proofs.YtmgehfakcnmdnaaGreatDoor
/-
  The walk of DivMod of package wide, of numbers above zero.
-/
namespace Go.Proofs.YtmgehfakcnmdnaaGreatDoor
namespace Wd
open Go.RowKit Lw

section
variable {P : Program}
theorem ret_cell2_tmp {fn : Func} {p q u : Tmp} {ty : TypeId} (h : fn.results = #[.cell p ty, .cell q ty, .tmp u]) (tmps : Array Value) (w : World) (b c : Nat) (cs ds : List Value) (d : TypeDesc)
    (hp : tmps.getD p undef = .pointer (some ⟨b, 0, none⟩)) (hq : tmps.getD q undef = .pointer (some ⟨c, 0, none⟩)) (hr : w.rangeAt b 0 cs) (hs : w.rangeAt c 0 ds) (hu : P.underlying ty = some d) (hd : d.isRow = true) (hi : (P.info? ty).map (·.size) = some cs.length) (hj : (P.info? ty).map (·.size) = some ds.length) :
    (results fn tmps).run P w = .ok (.tuple #[.agg cs.toArray, .agg ds.toArray, tmps.getD u undef]) w := by
  have hp' : tmps[p]?.getD undef = .pointer (some ⟨b, 0, none⟩) := by simpa using hp
  have hq' : tmps[q]?.getD undef = .pointer (some ⟨c, 0, none⟩) := by simpa using hq
  simp [results, h, hp', hq', asAddr, run_loadVar_mid w b 0 ty cs d hr hu hd hi, run_loadVar_mid w c 0 ty ds d hs hu hd hj, Result.andThen]
end
theorem cell_same_set {w : World} {p : Addr} {v : Value} (h : w.cell? p = some v) (q : Addr) : (w.setCell p v).cell? q = w.cell? q := by
  by_cases e : q = p
  · subst e
    rw [World.cell?_setCell_same' w q v (by rw [h]; rfl), h]
  · exact World.cell?_setCell_other _ _ _ _ (Ne.symm e)
/-- Two whole numbers in boxes and two cells for results. -/
structure BY (w0 : World) (u v : Value) (w : World) : Prop where
  bx : BX w0 false false u v w
  size : w0.heap.size + 4 ≤ w.heap.size
  th2 : w.there (w0.heap.size + 3) 0 2
theorem BY.call {w0 w w' : World} {u v : Value} (h : BY w0 u v w) (hb : Below w.heap.size w w') : BY w0 u v w' := by
  have := h.size
  have := hb.size
  exact ⟨h.bx.call hb, by omega, there_below h.th2 hb (by omega)⟩
theorem BY.new (w0 : World) (u v : Value) : BY w0 u v ((((w0.alloc (.cells #[.bool false, u] 29)).alloc (.cells #[.bool false, v] 29)).alloc (.cells #[.bool false, .slice none 0 0] 29)).alloc (.cells #[.bool false, .slice none 0 0] 29)) := by
  have h := (BX.new w0 false false u v).call ((Below.refl _ _).alloc (Nat.le_refl _) (.cells #[.bool false, .slice none 0 0] 29))
  have t := there_new (((w0.alloc (.cells #[.bool false, u] 29)).alloc (.cells #[.bool false, v] 29)).alloc (.cells #[.bool false, .slice none 0 0] 29)) #[.bool false, .slice none 0 0] 29 2 (by simp)
  simp only [World.size_alloc] at t
  exact ⟨h, by simp, t⟩
/-- The row of two whole numbers that check takes, anywhere. -/
theorem two_row2 (z1 z2 : Int) (a d : Option Addr) (n ca m cd : Nat) (w W : World) (hb : Below w.heap.size w W) (hA : Lim w a n ca (canon z1.natAbs)) (hD : Lim w d m cd (canon z2.natAbs)) (hn : n ≤ 4096) (hm : m ≤ 4096) :
    WRow (W.alloc (.cells #[.bool (decide (z1 < 0)), .slice a n ca, .bool (decide (z2 < 0)), .slice d m cd] 29)) W.heap.size 2 (fun k => if k = 0 then z1 else z2) := by
  have r := rangeAt_new W [.bool (decide (z1 < 0)), .slice a n ca, .bool (decide (z2 < 0)), .slice d m cd] 29
  have hb2 := hb.alloc hb.size (.cells #[.bool (decide (z1 < 0)), .slice a n ca, .bool (decide (z2 < 0)), .slice d m cd] 29)
  refine ⟨by simp, fun k hk => ?_⟩
  match k, hk with
  | 0, _ => exact ⟨a, n, ca, r 0 _ rfl, r 1 _ rfl, hA.below hb2, hn⟩
  | 1, _ => exact ⟨d, m, cd, r 2 _ rfl, r 3 _ rfl, hD.below hb2, hm⟩
structure DE (w0 : World) (aq ar : Option Addr) (kq cq kr cr Q R : Nat) (w : World) : Prop where
  below : Below w0.heap.size w0 w
  lq : Lim w aq kq cq (canon Q)
  lr : Lim w ar kr cr (canon R)
  fq : ∀ b off, aq = some ⟨b, off, none⟩ → w0.heap.size + 4 ≤ b
  fr : ∀ b off, ar = some ⟨b, off, none⟩ → w0.heap.size + 4 ≤ b
theorem DE.set {w0 w : World} {aq ar : Option Addr} {kq cq kr cr Q R : Nat} (h : DE w0 aq ar kq cq kr cr Q R w) {b : Nat} (h1 : w0.heap.size ≤ b) (h2 : b < w0.heap.size + 4) (o : Nat) (v : Value) : DE w0 aq ar kq cq kr cr Q R (w.setCell ⟨b, o, none⟩ v) :=
  ⟨h.below.setCell (p := ⟨b, o, none⟩) h1 _, h.lq.grown (grownBy_set2 _ _ _ _) (fun b' off e => by have := h.fq b' off e; omega), h.lr.grown (grownBy_set2 _ _ _ _) (fun b' off e => by have := h.fr b' off e; omega), h.fq, h.fr⟩
theorem DE.call {w0 w w' : World} {aq ar : Option Addr} {kq cq kr cr Q R : Nat} (h : DE w0 aq ar kq cq kr cr Q R w) (hb : Below w.heap.size w w') : DE w0 aq ar kq cq kr cr Q R w' :=
  ⟨below_then h.below hb, h.lq.below hb, h.lr.below hb, h.fq, h.fr⟩
theorem BY.set2 {w0 w : World} {u v : Value} (h : BY w0 u v w) (o : Nat) (z : Value) : BY w0 u v (w.setCell ⟨w0.heap.size + 2, o, none⟩ z) :=
  ⟨h.bx.set o z, by simpa using h.size, there_setCell h.th2 _ _⟩
abbrev DS (s : Nat) (vq vr : Value) (E : World → Prop) (w' : World) : Prop :=
  w'.cell? ⟨s + 1 + 1, 0, none⟩ = some (.bool false) ∧ w'.cell? ⟨s + 1 + 1, 1, none⟩ = some vq ∧ w'.cell? ⟨s + 1 + 1 + 1, 0, none⟩ = some (.bool false) ∧ w'.cell? ⟨s + 1 + 1 + 1, 1, none⟩ = some vr ∧
    w'.frozen? ⟨s + 1 + 1, 0, none⟩ = false ∧ w'.frozen? ⟨s + 1 + 1, 1, none⟩ = false ∧ w'.frozen? ⟨s + 1 + 1 + 1, 0, none⟩ = false ∧ w'.frozen? ⟨s + 1 + 1 + 1, 1, none⟩ = false ∧ E w'
theorem DS.st {s : Nat} {vq vr : Value} {E : World → Prop} {w' : World} (h : DS s vq vr E w') {p : Addr} {v : Value} (hp : w'.cell? p = some v) (hE : E (w'.setCell p v)) : DS s vq vr E (w'.setCell p v) := by
  obtain ⟨h1, h2, h3, h4, h5, h6, h7, h8, _⟩ := h
  exact ⟨(cell_same_set hp _).trans h1, (cell_same_set hp _).trans h2, (cell_same_set hp _).trans h3, (cell_same_set hp _).trans h4, by rw [World.frozen?_setCell]; exact h5, by rw [World.frozen?_setCell]; exact h6, by rw [World.frozen?_setCell]; exact h7, by rw [World.frozen?_setCell]; exact h8, hE⟩
theorem DS.store1 {w w' : World} {vq vr : Value} {aq ar : Option Addr} {kq cq kr cr Q R : Nat} (h : DS w.heap.size vq vr (DE w aq ar kq cq kr cr Q R) w') : DS w.heap.size vq vr (DE w aq ar kq cq kr cr Q R) ((w'.setCell ⟨w.heap.size + 1 + 1, 0, none⟩ (.bool false)).setCell ⟨w.heap.size + 1 + 1, 1, none⟩ vq) := by
  have h1 := h.st h.1 (h.2.2.2.2.2.2.2.2.set (b := w.heap.size + 1 + 1) (by omega) (by omega) 0 (.bool false))
  exact h1.st h1.2.1 (h1.2.2.2.2.2.2.2.2.set (b := w.heap.size + 1 + 1) (by omega) (by omega) 1 vq)
theorem DS.store2 {w w' : World} {vq vr : Value} {aq ar : Option Addr} {kq cq kr cr Q R : Nat} (h : DS w.heap.size vq vr (DE w aq ar kq cq kr cr Q R) w') : DS w.heap.size vq vr (DE w aq ar kq cq kr cr Q R) ((w'.setCell ⟨w.heap.size + 1 + 1 + 1, 0, none⟩ (.bool false)).setCell ⟨w.heap.size + 1 + 1 + 1, 1, none⟩ vr) := by
  have h1 := h.st h.2.2.1 (h.2.2.2.2.2.2.2.2.set (b := w.heap.size + 1 + 1 + 1) (by omega) (by omega) 0 (.bool false))
  exact h1.st h1.2.2.2.1 (h1.2.2.2.2.2.2.2.2.set (b := w.heap.size + 1 + 1 + 1) (by omega) (by omega) 1 vr)
theorem DE.undrew {w0 w : World} {aq ar : Option Addr} {kq cq kr cr Q R : Nat} (h : DE w0 aq ar kq cq kr cr Q R w.drew) : DE w0 aq ar kq cq kr cr Q R w :=
  ⟨⟨h.below.os, h.below.tape, h.below.output, h.below.size, h.below.block⟩, ⟨h.lq.len, h.lq.lb, h.lq.cp, h.lq.sm, h.lq.row⟩, ⟨h.lr.len, h.lr.lb, h.lr.cp, h.lr.sm, h.lr.row⟩, h.fq, h.fr⟩
theorem DS.dr {w w' : World} {vq vr : Value} {aq ar : Option Addr} {kq cq kr cr Q R : Nat} (h : DS w.heap.size vq vr (DE w aq ar kq cq kr cr Q R) w') : DS w.heap.size vq vr (DE w aq ar kq cq kr cr Q R) w'.drew :=
  ⟨h.1, h.2.1, h.2.2.1, h.2.2.2.1, h.2.2.2.2.1, h.2.2.2.2.2.1, h.2.2.2.2.2.2.1, h.2.2.2.2.2.2.2.1, h.2.2.2.2.2.2.2.2.call (Below.refl _ _).drew⟩
theorem DS.undr {w w' : World} {vq vr : Value} {aq ar : Option Addr} {kq cq kr cr Q R : Nat} (h : DS w.heap.size vq vr (DE w aq ar kq cq kr cr Q R) w'.drew) : DS w.heap.size vq vr (DE w aq ar kq cq kr cr Q R) w' :=
  ⟨h.1, h.2.1, h.2.2.1, h.2.2.2.1, h.2.2.2.2.1, h.2.2.2.2.2.1, h.2.2.2.2.2.2.1, h.2.2.2.2.2.2.2.1, h.2.2.2.2.2.2.2.2.undrew⟩
theorem DS.store1d {w w' : World} {vq vr : Value} {aq ar : Option Addr} {kq cq kr cr Q R : Nat} (h : DS w.heap.size vq vr (DE w aq ar kq cq kr cr Q R) w'.drew) : DS w.heap.size vq vr (DE w aq ar kq cq kr cr Q R) ((w'.setCell ⟨w.heap.size + 1 + 1, 0, none⟩ (.bool false)).setCell ⟨w.heap.size + 1 + 1, 1, none⟩ vq).drew := h.undr.store1.dr
theorem DS.store2d {w w' : World} {vq vr : Value} {aq ar : Option Addr} {kq cq kr cr Q R : Nat} (h : DS w.heap.size vq vr (DE w aq ar kq cq kr cr Q R) w'.drew) : DS w.heap.size vq vr (DE w aq ar kq cq kr cr Q R) ((w'.setCell ⟨w.heap.size + 1 + 1 + 1, 0, none⟩ (.bool false)).setCell ⟨w.heap.size + 1 + 1 + 1, 1, none⟩ vr).drew := h.undr.store2.dr
theorem range2 {w : World} {b : Nat} {x y : Value} (h0 : w.cell? ⟨b, 0, none⟩ = some x) (h1 : w.cell? ⟨b, 1, none⟩ = some y) : w.rangeAt b 0 [x, y] := fun j v hj => by
  match j, hj with
  | 0, hj => simp at hj; subst hj; exact h0
  | 1, hj => simp at hj; subst hj; exact h1
def DMPost (w : World) (q r : Int) (e : Ending) (w' : World) : Prop := ∃ V1 V2, e = .returned (.tuple #[V1, V2, .int .i64 0]) ∧ Wide w.heap.size w' V1 q ∧ Wide w.heap.size w' V2 r ∧ Below w.heap.size w w'
theorem DE.post {w0 w : World} {aq ar : Option Addr} {kq cq kr cr Q R : Nat} (h : DE w0 aq ar kq cq kr cr Q R w) : DMPost w0 (Q : Int) (R : Int) (.returned (.tuple #[.agg #[.bool false, .slice aq kq cq], .agg #[.bool false, .slice ar kr cr], .int .i64 0])) w :=
  ⟨_, _, rfl, ⟨aq, kq, cq, by rw [decide_eq_false (by omega)], by rw [Int.natAbs_natCast]; exact h.lq, fun b off e => by have := h.fq b off e; omega⟩,
    ⟨ar, kr, cr, by rw [decide_eq_false (by omega)], by rw [Int.natAbs_natCast]; exact h.lr, fun b off e => by have := h.fr b off e; omega⟩, h.below⟩
set_option maxRecDepth 100000 in
set_option maxHeartbeats 4000000 in
theorem divmod_walk (V1 V2 : Value) (X Y : Nat) (w : World) (h1 : Wide 0 w V1 (X : Int)) (h2 : Wide 0 w V2 (Y : Int)) (hX : 0 < X) (hY : 0 < Y) (hx : (canon X).length ≤ 4000) (hy : (canon Y).length ≤ 4000) :
    Calls Tryz.prog 113 #[V1, V2] w (DMPost w ((X / Y : Nat) : Int) ((X % Y : Nat) : Int)) := by
  obtain ⟨a, n, ca, rfl, hA, -⟩ := h1
  obtain ⟨d, m, cd, rfl, hD, -⟩ := h2
  have la := hA.len
  have ld := hD.len
  have hS0 := BY.new w (.slice a n ca) (.slice d m cd)
  have HC := two_row2 (X : Int) (Y : Int) a d n ca m cd w _ hS0.bx.below hA hD (by rw [← la, Int.natAbs_natCast]; omega) (by rw [← ld, Int.natAbs_natCast]; omega)
  rw [decide_eq_false (show ¬ (X : Int) < 0 by omega), decide_eq_false (show ¬ (Y : Int) < 0 by omega)] at *
  rw [Int.natAbs_natCast] at la ld hA hD
  simp only [World.size_alloc] at HC
  have HC := Lib.hid (check_walk _ _ 2 2 _ HC (by omega))
  have HS := Lib.hid (hS0.call ((Below.refl _ _).alloc (Nat.le_refl _) (.cells #[.bool false, .slice a n ca, .bool false, .slice d m cd] 29)))
  have HA := Lib.hid hA
  have HD := Lib.hid hD
  have mp : 0 < m := by rw [← ld]; exact (canon_lenpos Y).2 hY
  have k1 : ¬ (m : Int) = 0 := by omega
  obtain ⟨Q, hQ⟩ : ∃ Q, Q = X / Y := ⟨_, rfl⟩
  obtain ⟨R, hR⟩ : ∃ R, R = X % Y := ⟨_, rfl⟩
  have HQ := Lib.hid hQ
  have HR := Lib.hid hR
  rw [← hQ, ← hR]
  clear hA hD hS0 hQ hR
  go_enter Tryz.func113, Tryz.ntmps113
  go_wp2_with fail
  refine HC.out.mono ?_
  rintro e w1 ⟨rfl, hb⟩
  have hS := HS.out.call hb
  have c0 := hS.bx.x0
  have c1 := hS.bx.x1
  have d0 := hS.bx.y0
  have d1 := hS.bx.y1
  have dv := divide_walk X Y a d n ca m cd w1 (HA.out.below hS.bx.below) (HD.out.below hS.bx.below) hX hY (by omega)
  rw [← HQ.out, ← HR.out] at dv
  have HSS := Lib.hid hS
  clear hb HS HC hS
  go_wp2_with (go_at_call 139; refine dv.mono ?_; rintro e w2 ⟨aq, cq, ar, cr, rfl, l1, l2, f1, f2, hb⟩; have hS2 := HSS.out.call hb; have c0 := hS2.bx.x0; have d0 := hS2.bx.y0; have hsz := HSS.out.size; have HS2 := Lib.hid hS2; have L1 := Lib.hid l1; have L2 := Lib.hid l2; clear l1 l2 hb hS2)
  all_goals
    have bq : (canon Q).length ≤ 4096 := by rw [HQ.out]; exact Nat.le_trans (canon_mono (Nat.div_le_self _ _)) (by omega)
    have br : (canon R).length ≤ 4096 := by rw [HR.out]; exact Nat.le_trans (canon_mono (Nat.mod_le _ _)) (by omega)
    have mq := made_walk false (canon Q) aq _ cq w2 L1.out (by rw [val_canon]; exact bq)
    rw [val_canon, show sgn false Q = (Q : Int) from rfl] at mq
    refine mq.mono ?_
    rintro e w3 ⟨rfl, hM, hb3⟩
    rw [val_canon] at hM ⊢
    rw [decide_eq_false (show ¬ (Q : Int) < 0 by omega)]
    have hS3 := HS2.out.call hb3
    have hszz := HS2.out.size
    have E1 : DE w aq ar (canon Q).length cq (canon R).length cr Q R w3 := ⟨hS3.bx.below, hM, L2.out.below hb3, fun b off e => by have := f1 b off e; omega, fun b off e => by have := f2 b off e; omega⟩
    have E1 := Lib.hid E1
    have y3 := hS3.bx.y0
    obtain ⟨-, -, -, -, s5, s6, s7, s8, -⟩ := hS3.bx.s
    have HS3 := Lib.hid hS3
    clear mq hM hb3 hS3 c0 d0 f1 f2
    generalize hkq : (canon Q).length = kq at *
    generalize hkr : (canon R).length = kr at *
    go_wp2_with fail
    have E2 := Lib.hid ((E1.out.set (b := w.heap.size + 1 + 1) (by omega) (by omega) 0 (.bool false)).set (b := w.heap.size + 1 + 1) (by omega) (by omega) 1 (.slice aq kq cq))
    have S2 := Lib.hid ((HS3.out.set2 0 (.bool false)).set2 1 (.slice aq kq cq))
    have r1 : ((w3.setCell ⟨w.heap.size + 1 + 1, 0, none⟩ (.bool false)).setCell ⟨w.heap.size + 1 + 1, 1, none⟩ (.slice aq kq cq)).cell? ⟨w.heap.size + 1 + 1, 0, none⟩ = some (.bool false) :=
      (World.cell?_setCell_other _ _ _ _ (by simp)).trans (World.cell?_setCell_same' _ _ _ (by rw [show w.heap.size + 1 + 1 = w.heap.size + 2 from rfl, s5]; rfl))
    have r2 : ((w3.setCell ⟨w.heap.size + 1 + 1, 0, none⟩ (.bool false)).setCell ⟨w.heap.size + 1 + 1, 1, none⟩ (.slice aq kq cq)).cell? ⟨w.heap.size + 1 + 1, 1, none⟩ = some (.slice aq kq cq) :=
      World.cell?_setCell_same' _ _ _ (by rw [World.cell?_setCell_other _ _ _ _ (by simp), show w.heap.size + 1 + 1 = w.heap.size + 2 from rfl, s6]; rfl)
    have z1 : ((w3.setCell ⟨w.heap.size + 1 + 1, 0, none⟩ (.bool false)).setCell ⟨w.heap.size + 1 + 1, 1, none⟩ (.slice aq kq cq)).frozen? ⟨w.heap.size + 1 + 1, 0, none⟩ = false := by rw [World.frozen?_setCell, World.frozen?_setCell]; exact s7
    have z2 : ((w3.setCell ⟨w.heap.size + 1 + 1, 0, none⟩ (.bool false)).setCell ⟨w.heap.size + 1 + 1, 1, none⟩ (.slice aq kq cq)).frozen? ⟨w.heap.size + 1 + 1, 1, none⟩ = false := by rw [World.frozen?_setCell, World.frozen?_setCell]; exact s8
    simp only [show w.heap.size + 2 = w.heap.size + 1 + 1 from rfl] at S2
    clear E1 HS3 s5 s6 s7 s8 y3
    generalize (w3.setCell ⟨w.heap.size + 1 + 1, 0, none⟩ (.bool false)).setCell ⟨w.heap.size + 1 + 1, 1, none⟩ (.slice aq kq cq) = W3 at *
    have mr := made_walk false (canon R) ar kr cr W3 E2.out.lr (by rw [val_canon]; omega)
    rw [val_canon, show sgn false R = (R : Int) from rfl] at mr
    refine mr.mono ?_
    rintro e w4 ⟨rfl, hM, hb4⟩
    rw [val_canon, hkr] at hM ⊢
    rw [decide_eq_false (show ¬ (R : Int) < 0 by omega)]
    have hsS := S2.out.size
    have E3 := Lib.hid (E2.out.call hb4)
    have S3 := Lib.hid (S2.out.call hb4)
    have r1 := (hb4.cell (p := ⟨w.heap.size + 1 + 1, 0, none⟩) (by simp; omega)).trans r1
    have r2 := (hb4.cell (p := ⟨w.heap.size + 1 + 1, 1, none⟩) (by simp; omega)).trans r2
    have z1 := (World.frozen?_of_block (hb4.block (w.heap.size + 1 + 1) (by omega))).trans z1
    have z2 := (World.frozen?_of_block (hb4.block (w.heap.size + 1 + 1) (by omega))).trans z2
    have t1 := cellOf_some (S3.out.th2 0 (by omega)).1
    have t2 := cellOf_some (S3.out.th2 1 (by omega)).1
    have z3 := (S3.out.th2 0 (by omega)).2
    have z4 := (S3.out.th2 1 (by omega)).2
    clear mr hM hb4 E2 S2
    go_wp2_with fail
    have D0 : DS w.heap.size (.slice aq kq cq) (.slice ar kr cr) (DE w aq ar kq cq kr cr Q R) ((w4.setCell ⟨w.heap.size + 1 + 1 + 1, 0, none⟩ (.bool false)).setCell ⟨w.heap.size + 1 + 1 + 1, 1, none⟩ (.slice ar kr cr)) := by
      refine ⟨?_, ?_, ?_, ?_, ?_, ?_, ?_, ?_, (E3.out.set (b := w.heap.size + 1 + 1 + 1) (by omega) (by omega) 0 (.bool false)).set (b := w.heap.size + 1 + 1 + 1) (by omega) (by omega) 1 (.slice ar kr cr)⟩
      · exact (World.cell?_setCell_far _ _ _ _ (by simp)).trans ((World.cell?_setCell_far _ _ _ _ (by simp)).trans r1)
      · exact (World.cell?_setCell_far _ _ _ _ (by simp)).trans ((World.cell?_setCell_far _ _ _ _ (by simp)).trans r2)
      · exact (World.cell?_setCell_other _ _ _ _ (by simp)).trans (World.cell?_setCell_same' _ _ _ (by rw [show w.heap.size + 1 + 1 + 1 = w.heap.size + 3 from rfl, t1]; rfl))
      · exact World.cell?_setCell_same' _ _ _ (by rw [World.cell?_setCell_other _ _ _ _ (by simp), show w.heap.size + 1 + 1 + 1 = w.heap.size + 3 from rfl, t2]; rfl)
      · rw [World.frozen?_setCell, World.frozen?_setCell]; exact z1
      · rw [World.frozen?_setCell, World.frozen?_setCell]; exact z2
      · rw [World.frozen?_setCell, World.frozen?_setCell]; exact z3
      · rw [World.frozen?_setCell, World.frozen?_setCell]; exact z4
    clear r1 r2 z1 z2 t1 t2 z3 z4 S3 E3
    generalize (w4.setCell ⟨w.heap.size + 1 + 1 + 1, 0, none⟩ (.bool false)).setCell ⟨w.heap.size + 1 + 1 + 1, 1, none⟩ (.slice ar kr cr) = W5 at *
    have D0 := D0.dr
    go_region_held3 (fun w' => w'.cell? ⟨w.heap.size + 1 + 1, 0, none⟩ = some (.bool false) ∧ w'.cell? ⟨w.heap.size + 1 + 1, 1, none⟩ = some (.slice aq kq cq) ∧ w'.cell? ⟨w.heap.size + 1 + 1 + 1, 0, none⟩ = some (.bool false) ∧ w'.cell? ⟨w.heap.size + 1 + 1 + 1, 1, none⟩ = some (.slice ar kr cr) ∧
    w'.frozen? ⟨w.heap.size + 1 + 1, 0, none⟩ = false ∧ w'.frozen? ⟨w.heap.size + 1 + 1, 1, none⟩ = false ∧ w'.frozen? ⟨w.heap.size + 1 + 1 + 1, 0, none⟩ = false ∧ w'.frozen? ⟨w.heap.size + 1 + 1 + 1, 1, none⟩ = false ∧ DE w aq ar kq cq kr cr Q R w') (first | with_reducible exact D0 | with_reducible exact DS.store1d (by assumption) | with_reducible exact DS.store2d (by assumption) | with_reducible assumption) (fail)
    all_goals
      obtain ⟨g1, g2, g3, g4, -, -, -, -, g9⟩ := ‹_ ∧ _ ∧ _ ∧ _ ∧ _ ∧ _ ∧ _ ∧ _ ∧ DE w aq ar kq cq kr cr Q R _›
      have G := Lib.hid (And.intro (range2 g1 g2) (And.intro (range2 g3 g4) g9.post))
      clear g1 g2 g3 g4 g9 D0
      go_wp2_with fail
      refine bodyPost_ret (ret_cell2_tmp Tryz.results113 _ _ (w.heap.size + 1 + 1) (w.heap.size + 1 + 1 + 1) [.bool false, .slice aq kq cq] [.bool false, .slice ar kr cr] _ rfl rfl G.out.1 G.out.2.1 Tryz.underlying29 rfl infoW infoW) rfl ?_
      exact G.out.2.2
end Wd
end Go.Proofs.YtmgehfakcnmdnaaGreatDoor
/-
  The walks of want, must and zero of package frac.
-/
namespace Go.Proofs.YtmgehfakcnmdnaaGreatDoor
namespace Wd
open Go.RowKit Lw

set_option maxRecDepth 100000 in
set_option maxHeartbeats 1000000 in
theorem want_walk (w : World) : Calls Tryz.prog 76 #[.int .i64 0] w fun e w' => e = .returned (.tuple #[]) ∧ w = w' := by
  go_enter Tryz.func76, Tryz.ntmps76
  go_wp2
  go_end0
  exact ⟨rfl, rfl⟩
set_option maxRecDepth 100000 in
set_option maxHeartbeats 1000000 in
theorem must_walk (b : Bool) (a : Option Addr) (n cap : Nat) (w : World) : Calls Tryz.prog 110 #[.agg #[.bool b, .slice a n cap], .int .i64 0] w fun e w' => e = .returned (.agg #[.bool b, .slice a n cap]) ∧ Below w.heap.size w w' := by
  have hB := ((Below.refl w.heap.size w).alloc (Nat.le_refl _) (.cells #[.bool b, .slice a n cap] 29)).alloc (by simp) (.cells #[.bool b, .slice a n cap] 29)
  have r := rangeAt_new (w.alloc (.cells #[.bool b, .slice a n cap] 29)) [.bool b, .slice a n cap] 29
  rw [World.size_alloc] at r
  have HB := Lib.hid hB
  have R := Lib.hid r
  clear hB r
  go_enter Tryz.func110, Tryz.ntmps110
  go_wp2_with fail
  exact bodyPost_ret (ret_cell Tryz.results110 _ _ (w.heap.size + 1) [.bool b, .slice a n cap] _ rfl R.out Tryz.underlying29 rfl infoW) rfl ⟨rfl, HB.out⟩
set_option maxRecDepth 100000 in
set_option maxHeartbeats 1000000 in
theorem zero_walk (b : Bool) (a : Option Addr) (n cap : Nat) (w : World) (hn : 0 < n) : Calls Tryz.prog 78 #[.agg #[.bool b, .slice a n cap]] w fun e w' => e = .returned (.bool false) ∧ Below w.heap.size w w' := by
  have hB := (Below.refl w.heap.size w).alloc (Nat.le_refl _) (.cells #[.bool b, .slice a n cap] 29)
  have HB := Lib.hid hB
  have k : ¬ (n : Int) = 0 := by omega
  clear hB
  go_enter Tryz.func78, Tryz.ntmps78
  go_wp2_with fail
  refine bodyPost_ret (results_tmp rfl _ _ _) rfl ⟨?_, HB.out⟩
  simp
  omega
end Wd
end Go.Proofs.YtmgehfakcnmdnaaGreatDoor
/-
  The walk of reduce of package frac, of numbers above zero.
-/
namespace Go.Proofs.YtmgehfakcnmdnaaGreatDoor
namespace Wd
open Go.RowKit Lw

theorem infoF : (Tryz.prog.info? 31).map (·.size) = some 4 := by kernel_rfl
/-- The value of a fraction above zero, whose limbs lie at or behind block B. -/
def FracV (B : Nat) (w : World) (V : Value) (p q : Nat) : Prop := ∃ a k c a' k' c', V = .agg #[.bool false, .slice a k c, .bool false, .slice a' k' c'] ∧ Lim w a k c (canon p) ∧ Lim w a' k' c' (canon q) ∧ (∀ b off, a = some ⟨b, off, none⟩ → B ≤ b) ∧ (∀ b off, a' = some ⟨b, off, none⟩ → B ≤ b)
structure RX (w0 : World) (u v : Value) (w : World) : Prop where
  below : Below w0.heap.size w0 w
  size : w0.heap.size + 3 ≤ w.heap.size
  x0 : w.cell? ⟨w0.heap.size, 0, none⟩ = some (.bool false)
  x1 : w.cell? ⟨w0.heap.size, 1, none⟩ = some u
  y0 : w.cell? ⟨w0.heap.size + 1, 0, none⟩ = some (.bool false)
  y1 : w.cell? ⟨w0.heap.size + 1, 1, none⟩ = some v
  th : w.there (w0.heap.size + 2) 0 4
theorem RX.call {w0 w w' : World} {u v : Value} (h : RX w0 u v w) (hb : Below w.heap.size w w') : RX w0 u v w' := by
  have hs := h.size
  have := hb.size
  have q0 : w0.heap.size < w.heap.size := by omega
  have q1 : w0.heap.size + 1 < w.heap.size := by omega
  exact ⟨below_then h.below hb, by omega, (hb.cell (p := ⟨_, 0, none⟩) q0).trans h.x0, (hb.cell (p := ⟨_, 1, none⟩) q0).trans h.x1, (hb.cell (p := ⟨_, 0, none⟩) q1).trans h.y0, (hb.cell (p := ⟨_, 1, none⟩) q1).trans h.y1, there_below h.th hb (by omega)⟩
theorem RX.new (w0 : World) (u v : Value) : RX w0 u v (((w0.alloc (.cells #[.bool false, u] 29)).alloc (.cells #[.bool false, v] 29)).alloc (.cells #[.bool false, .slice none 0 0, .bool false, .slice none 0 0] 31)) := by
  have h1 := (Below.refl w0.heap.size w0).alloc (Nat.le_refl _) (.cells #[.bool false, u] 29)
  have h2 := h1.alloc h1.size (.cells #[.bool false, v] 29)
  have h3 := h2.alloc h2.size (.cells #[.bool false, .slice none 0 0, .bool false, .slice none 0 0] 31)
  have r1 := rangeAt_new w0 [.bool false, u] 29
  have r2 := rangeAt_new (w0.alloc (.cells #[.bool false, u] 29)) [.bool false, v] 29
  have b2 := (Below.refl _ (w0.alloc (.cells #[.bool false, u] 29))).alloc (Nat.le_refl _) (.cells #[.bool false, v] 29)
  have b3 := (Below.refl _ ((w0.alloc (.cells #[.bool false, u] 29)).alloc (.cells #[.bool false, v] 29))).alloc (Nat.le_refl _) (.cells #[.bool false, .slice none 0 0, .bool false, .slice none 0 0] 31)
  have r1' := rangeAt_below (rangeAt_below r1 b2 (by simp)) b3 (by simp; omega)
  have r2' := rangeAt_below r2 b3 (by simp)
  have t := there_new ((w0.alloc (.cells #[.bool false, u] 29)).alloc (.cells #[.bool false, v] 29)) #[.bool false, .slice none 0 0, .bool false, .slice none 0 0] 31 4 (by simp)
  simp only [World.size_alloc] at r2' t
  exact ⟨h3, by simp, r1' 0 _ rfl, r1' 1 _ rfl, r2' 0 _ rfl, r2' 1 _ rfl, t⟩
theorem wideN {B : Nat} {w : World} {a : Option Addr} {k c p : Nat} (h : Lim w a k c (canon p)) (hg : ∀ b off, a = some ⟨b, off, none⟩ → B ≤ b) : Wide B w (.agg #[.bool false, .slice a k c]) (p : Int) :=
  ⟨a, k, c, by rw [decide_eq_false (by omega)], by rw [Int.natAbs_natCast]; exact h, hg⟩
theorem wideN_inv {B : Nat} {w : World} {V : Value} {p : Nat} (h : Wide B w V (p : Int)) : ∃ a k c, V = .agg #[.bool false, .slice a k c] ∧ Lim w a k c (canon p) ∧ ∀ b off, a = some ⟨b, off, none⟩ → B ≤ b := by
  obtain ⟨a, k, c, rfl, hL, hg⟩ := h
  rw [Int.natAbs_natCast] at hL
  exact ⟨a, k, c, by rw [decide_eq_false (by omega)], hL, hg⟩
set_option maxRecDepth 100000 in
set_option maxHeartbeats 4000000 in
theorem reduce_walk (V1 V2 : Value) (X Y : Nat) (w : World) (h1 : Wide 0 w V1 (X : Int)) (h2 : Wide 0 w V2 (Y : Int)) (hX : 0 < X) (hY : 0 < Y) (hx : (canon X).length ≤ 4000) (hy : (canon Y).length ≤ 4000) :
    Calls Tryz.prog 79 #[V1, V2] w fun e w' => ∃ V, e = .returned V ∧ FracV w.heap.size w' V (X / Nat.gcd X Y) (Y / Nat.gcd X Y) ∧ Below w.heap.size w w' := by
  obtain ⟨a, n, ca, rfl, hA, -⟩ := wideN_inv h1
  obtain ⟨d, m, cd, rfl, hD, -⟩ := wideN_inv h2
  have hg0 : 0 < Nat.gcd X Y := Nat.gcd_pos_of_pos_left _ hX
  have hgl : (canon (Nat.gcd X Y)).length ≤ 4000 := Nat.le_trans (canon_mono (Nat.gcd_le_left Y hX)) hx
  have hS0 := RX.new w (.slice a n ca) (.slice d m cd)
  have GW := Lib.hid (fun w' (hb : Below w.heap.size w w') => gcd_walk (.agg #[.bool false, .slice a n ca]) (.agg #[.bool false, .slice d m cd]) X Y w' (wideN (hA.below hb) (fun _ _ _ => Nat.zero_le _)) (wideN (hD.below hb) (fun _ _ _ => Nat.zero_le _)) hX hY hx hy)
  have D1 := Lib.hid (fun w' (hb : Below w.heap.size w w') V (hV : Wide 0 w' V ((Nat.gcd X Y : Nat) : Int)) => divmod_walk (.agg #[.bool false, .slice a n ca]) V X (Nat.gcd X Y) w' (wideN (hA.below hb) (fun _ _ _ => Nat.zero_le _)) hV hX hg0 hx hgl)
  have D2 := Lib.hid (fun w' (hb : Below w.heap.size w w') V (hV : Wide 0 w' V ((Nat.gcd X Y : Nat) : Int)) => divmod_walk (.agg #[.bool false, .slice d m cd]) V Y (Nat.gcd X Y) w' (wideN (hD.below hb) (fun _ _ _ => Nat.zero_le _)) hV hY hg0 hy hgl)
  have HS := Lib.hid hS0
  clear hA hD
  generalize hg : Nat.gcd X Y = g at *
  clear hg hS0
  go_enter Tryz.func79, Tryz.ntmps79
  go_wp2_with (first | (go_at_call 111; refine (GW.out _ HS.out.below).mono ?_; rintro e w1 ⟨V, rfl, hV, hb⟩; obtain ⟨ag, kg, cg, rfl, hL, hf⟩ := wideN_inv hV; have hS1 := HS.out.call hb; have HS1 := Lib.hid hS1; have HL := Lib.hid hL; clear hV hb hL hS1) | (go_at_call 110; refine (must_walk _ _ _ _ _).mono ?_; rintro e w2 ⟨rfl, hb⟩; have hbA := (Below.refl _ w2).alloc (Nat.le_refl _) (.cells #[.bool false, .slice ag kg cg] 29); have hS2 := (HS1.out.call hb).call hbA; have c0 := hS2.x0; have c1 := hS2.x1; have d0 := hS2.y0; have d1 := hS2.y1; have HL2 := Lib.hid ((HL.out.below hb).below hbA); have HS2 := Lib.hid hS2; clear hb hS2 hbA))
  refine (D1.out _ HS2.out.below _ (wideN HL2.out (fun _ _ _ => Nat.zero_le _))).mono ?_
  rintro e w3 ⟨U1, U2, rfl, hV1, hV2, hb⟩
  obtain ⟨aq, kq, cq, rfl, lq, fq⟩ := wideN_inv hV1
  obtain ⟨ar, kr, cr, rfl, -, -⟩ := wideN_inv hV2
  have hbA : Below (w2.alloc (.cells #[.bool false, .slice ag kg cg] 29)).heap.size (w2.alloc (.cells #[.bool false, .slice ag kg cg] 29)) ((w3.alloc (.cells #[.bool false, .slice aq kq cq] 29)).alloc (.cells #[.bool false, .slice ar kr cr] 29)) := (hb.alloc hb.size _).alloc (by have := hb.size; simp at this ⊢; omega) _
  have g0 := (hbA.cell (p := ⟨w2.heap.size, 0, none⟩) (by simp)).trans (rangeAt_new w2 [.bool false, .slice ag kg cg] 29 0 _ rfl)
  have g1 := (hbA.cell (p := ⟨w2.heap.size, 1, none⟩) (by simp)).trans (rangeAt_new w2 [.bool false, .slice ag kg cg] 29 1 _ rfl)
  have b3 := ((Below.refl _ w3).alloc (Nat.le_refl _) (.cells #[.bool false, .slice aq kq cq] 29)).alloc (by simp) (.cells #[.bool false, .slice ar kr cr] 29)
  have b4 := (Below.refl _ (w3.alloc (.cells #[.bool false, .slice aq kq cq] 29))).alloc (Nat.le_refl _) (.cells #[.bool false, .slice ar kr cr] 29)
  have t0 := (b4.cell (p := ⟨w3.heap.size, 0, none⟩) (by simp)).trans (rangeAt_new w3 [.bool false, .slice aq kq cq] 29 0 _ rfl)
  have t1 := (b4.cell (p := ⟨w3.heap.size, 1, none⟩) (by simp)).trans (rangeAt_new w3 [.bool false, .slice aq kq cq] 29 1 _ rfl)
  have hS3 := HS2.out.call hbA
  have d0 := hS3.y0
  have d1 := hS3.y1
  have HS3 := Lib.hid hS3
  have HLQ := Lib.hid (lq.below b3)
  have HL3 := Lib.hid (HL2.out.below hbA)
  have hsq : w.heap.size ≤ (w2.alloc (.cells #[.bool false, .slice ag kg cg] 29)).heap.size := HS2.out.below.size
  clear hV1 hV2 lq hb hS3 hbA b3 b4
  go_wp2_with fail
  refine (D2.out _ HS3.out.below _ (wideN HL3.out (fun _ _ _ => Nat.zero_le _))).mono ?_
  rintro e w4 ⟨U1, U2, rfl, hV1, hV2, hb⟩
  obtain ⟨aq2, kq2, cq2, rfl, lq2, fq2⟩ := wideN_inv hV1
  obtain ⟨ar2, kr2, cr2, rfl, -, -⟩ := wideN_inv hV2
  have hbA : Below ((w3.alloc (.cells #[.bool false, .slice aq kq cq] 29)).alloc (.cells #[.bool false, .slice ar kr cr] 29)).heap.size ((w3.alloc (.cells #[.bool false, .slice aq kq cq] 29)).alloc (.cells #[.bool false, .slice ar kr cr] 29)) ((w4.alloc (.cells #[.bool false, .slice aq2 kq2 cq2] 29)).alloc (.cells #[.bool false, .slice ar2 kr2 cr2] 29)) := (hb.alloc hb.size _).alloc (by have := hb.size; simp at this ⊢; omega) _
  have t0 := (hbA.cell (p := ⟨w3.heap.size, 0, none⟩) (by simp; omega)).trans t0
  have t1 := (hbA.cell (p := ⟨w3.heap.size, 1, none⟩) (by simp; omega)).trans t1
  have b3 := ((Below.refl _ w4).alloc (Nat.le_refl _) (.cells #[.bool false, .slice aq2 kq2 cq2] 29)).alloc (by simp) (.cells #[.bool false, .slice ar2 kr2 cr2] 29)
  have hS4 := HS3.out.call hbA
  have u0 := cellOf_some (hS4.th 0 (by omega)).1
  have u1 := cellOf_some (hS4.th 1 (by omega)).1
  have u2 := cellOf_some (hS4.th 2 (by omega)).1
  have u3 := cellOf_some (hS4.th 3 (by omega)).1
  have v0 := (hS4.th 0 (by omega)).2
  have v1 := (hS4.th 1 (by omega)).2
  have v2 := (hS4.th 2 (by omega)).2
  have v3 := (hS4.th 3 (by omega)).2
  have HS4 := Lib.hid hS4
  have HLQ2 := Lib.hid (lq2.below b3)
  have HLQ1 := Lib.hid (HLQ.out.below hbA)
  have hsq2 := HS3.out.below.size
  clear hV1 hV2 lq2 hb hS4 hbA b3
  go_wp2_with fail
  have z2 := HS2.out.size
  have z3 := HS3.out.size
  have G : FracV w.heap.size (((w4.alloc (.cells #[.bool false, .slice aq2 kq2 cq2] 29)).alloc (.cells #[.bool false, .slice ar2 kr2 cr2] 29)).setCells (w.heap.size + 2) 0 [.bool false, .slice aq kq cq, .bool false, .slice aq2 kq2 cq2]) (.agg #[.bool false, .slice aq kq cq, .bool false, .slice aq2 kq2 cq2]) (X / g) (Y / g) ∧ Below w.heap.size w (((w4.alloc (.cells #[.bool false, .slice aq2 kq2 cq2] 29)).alloc (.cells #[.bool false, .slice ar2 kr2 cr2] 29)).setCells (w.heap.size + 2) 0 [.bool false, .slice aq kq cq, .bool false, .slice aq2 kq2 cq2]) :=
    ⟨⟨aq, kq, cq, aq2, kq2, cq2, rfl, HLQ1.out.setCells (fun b off e => by have := fq b off e; omega) _ _, HLQ2.out.setCells (fun b off e => by have := fq2 b off e; omega) _ _, fun b off e => by have := fq b off e; omega, fun b off e => by have := fq2 b off e; omega⟩, below_setCells _ (by omega) _ _ _ HS4.out.below⟩
  exact bodyPost_ret (ret_cell Tryz.results79 _ _ (w.heap.size + 2) [.bool false, .slice aq kq cq, .bool false, .slice aq2 kq2 cq2] _ rfl (World.rangeAt_setCells_same _ _ _ _ HS4.out.th) Tryz.underlying31 rfl infoF) rfl ⟨_, rfl, G⟩
end Wd
end Go.Proofs.YtmgehfakcnmdnaaGreatDoor
