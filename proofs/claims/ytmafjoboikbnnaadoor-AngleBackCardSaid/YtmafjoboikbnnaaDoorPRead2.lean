/-
  Reading hours or degrees: the walk of package angle's read.
-/
import Derived.Test.YtmafjoboikbnnaaDoorPRead
import Derived.Deep.RegionHeld3
namespace Go.Proofs.YtmafjoboikbnnaaDoor
namespace Ap
open Go.RowKit Lw

theorem results_tmp4 {fn : Func} {t u v x : Tmp} (h : fn.results = #[.tmp t, .tmp u, .tmp v, .tmp x]) (tmps : Array Value) (P : Program) (w : World) :
    (results fn tmps).run P w = .ok (.tuple #[tmps.getD t undef, tmps.getD u undef, tmps.getD v undef, tmps.getD x undef]) w := by
  simp [results, h]
/-- What the region of the three numbers needs of memory. -/
structure ReadS (s : ByteArray) (w w' : World) : Prop where
  held : Held s w.heap.size w'
  below : Below w.heap.size w w'
theorem readS_call {s : ByteArray} {w a b : World} (h : ReadS s w a) (hb : Below a.heap.size a b) : ReadS s w b := ⟨held_below h.held hb, h.below.trans (hb.mono (Nat.le_of_lt h.held.1))⟩
theorem readS_drew {s : ByteArray} {w a : World} (h : ReadS s w a) : ReadS s w a.drew := ⟨held_drew h.held, h.below.drew⟩
theorem read_bad {s : ByteArray} {H : Int} (h : ¬ validP s) : ReadIs s H 0 0 0 false := Or.inr ⟨rfl, fun g => h g.1, ⟨by omega, by omega⟩, ⟨by omega, by omega⟩, by omega⟩
set_option maxRecDepth 100000 in
set_option maxHeartbeats 8000000 in
theorem read_shape (s : ByteArray) (H : Int) (w : World) (hs : s.size ≤ 1000) (hn : ¬ shapeP s) :
    Calls Tryd.prog 23 #[.string s, .int .i64 H] w (ReadPost s H w) := by
  have N := Lib.hid hn
  have hR : Hid (ReadIs s H 0 0 0 false) := Lib.hid (read_bad fun g => hn g.1)
  clear hn
  obtain ⟨W, cap, hcv, hH, hB, hcap⟩ := bytes_in w s
  go_enter Tryd.func23, Tryd.ntmps23
  by_cases h8 : s.size < 8
  · have n8 : (s.size : Int) < 8 := by omega
    go_wp2
    all_goals
      refine bodyPost_ret (results_tmp4 rfl _ _ _) rfl ?_
      exact ⟨0, 0, 0, false, rfl, hR.out, hB⟩
  · have n8 : ¬ (s.size : Int) < 8 := by omega
    have i2 : (2 : Nat) < s.size := by omega
    have i5 : (5 : Nat) < s.size := by omega
    have p2 := at_of s 2 i2
    have p5 := at_of s 5 i5
    have q2 := hH.2 2 i2
    have q5 := hH.2 5 i5
    have m2 : (2 : Int) < s.size := by omega
    have m5 : (5 : Int) < s.size := by omega
    by_cases h9 : 8 < s.size
    · have p8 := at_of s 8 h9
      have q8 := hH.2 8 h9
      have n9 : (8 : Int) < s.size := by omega
      clear hH
      generalize ((s[2].toNat : Nat) : Int) = x2 at *
      generalize ((s[5].toNat : Nat) : Int) = x5 at *
      generalize ((s[8].toNat : Nat) : Int) = x8 at *
      have nf : ¬ (x2 = 32 ∧ x5 = 32 ∧ s.size ≠ 9 ∧ s.size ≤ 15 ∧ x8 = 46) := fun ⟨a1, a2, a3, a4, a5⟩ => N.out ⟨by omega, by omega, by omega, a3, a4, fun _ => by omega⟩
      clear p2 p5 p8
      go_wp2_with fail
      all_goals first
        | (refine bodyPost_ret (results_tmp4 rfl _ _ _) rfl ?_
           exact ⟨0, 0, 0, false, rfl, hR.out, hB⟩)
        | (exfalso; simp only [beq_iff_eq, beq_eq_false_iff_ne, bne_iff_ne, bne_eq_false_iff_eq, ne_eq] at *; exact nf ⟨by omega, by omega, by omega, by omega, by omega⟩)
    · have n9 : ¬ (8 : Int) < s.size := by omega
      have h88 : (s.size : Int) = 8 := by omega
      clear hH
      generalize ((s[2].toNat : Nat) : Int) = x2 at *
      generalize ((s[5].toNat : Nat) : Int) = x5 at *
      have nf : ¬ (x2 = 32 ∧ x5 = 32) := fun ⟨a1, a2⟩ => N.out ⟨by omega, by omega, by omega, by omega, by omega, fun g => absurd g h9⟩
      clear p2 p5
      go_wp2_with fail
      all_goals first
        | (refine bodyPost_ret (results_tmp4 rfl _ _ _) rfl ?_
           exact ⟨0, 0, 0, false, rfl, hR.out, hB⟩)
        | (exfalso; simp only [beq_eq_false_iff_ne, bne_eq_false_iff_eq, ne_eq] at *; exact nf ⟨by omega, by omega⟩)
theorem below_iter (w : World) (s : ByteArray) (k : Nat) : Below w.heap.size w (w.iter s k) := by
  exact (Below.refl _ _).alloc (Nat.le_refl _) _
theorem value_b (s : ByteArray) (w : World) (hs : s.size ≤ 18) :
    Calls Tryd.prog 31 #[.string s] w fun e w' => e = .returned (.int .i64 (numV s.data.toList)) ∧ Below w.heap.size w w' := by
  refine (value_any s w hs).mono ?_
  rintro e w' ⟨rfl, k, rfl⟩
  exact ⟨rfl, below_iter w _ k⟩
set_option maxRecDepth 100000 in
set_option maxHeartbeats 40000000 in
theorem read_ok (s : ByteArray) (H : Int) (w : World) (hn : shapeP s) (_h0 : 0 ≤ H) (_h1 : H ≤ 1000) :
    Calls Tryd.prog 23 #[.string s, .int .i64 H] w (ReadPost s H w) := by
  have N := Lib.hid hn
  obtain ⟨h8, g2, g5, n9, n15, g8⟩ := hn
  have i2 : (2 : Nat) < s.size := by omega
  have i5 : (5 : Nat) < s.size := by omega
  have p2 : (s[2].toNat : Int) = 32 := (at_of s 2 i2).symm.trans g2
  have p5 : (s[5].toNat : Int) = 32 := (at_of s 5 i5).symm.trans g5
  have n8 : ¬ (s.size : Int) < 8 := by omega
  have n9' : ¬ (s.size : Int) = 9 := by omega
  have n15' : ¬ (15 : Int) < s.size := by omega
  obtain ⟨W, cap, hcv, hH, hB, hcap⟩ := bytes_in w s
  have q2 := hH.2 2 i2
  have q5 := hH.2 5 i5
  rw [p2] at q2
  rw [p5] at q5
  have m2 : (2 : Int) < s.size := by omega
  have m5 : (5 : Int) < s.size := by omega
  have l0 : (2 : Int) ≤ cap := by omega
  have l1 : (5 : Int) ≤ cap := by omega
  have l2 : (8 : Int) ≤ cap := by omega
  have hcase : (∃ h9 : 8 < s.size, W.cell? ⟨w.heap.size, 8, none⟩ = some (.int .u8 46) ∧ (8 : Int) < s.size) ∨ (¬ (8 : Int) < s.size ∧ s.size = 8) := by
    by_cases h9 : 8 < s.size
    · exact Or.inl ⟨h9, by rw [hH.2 8 h9, (at_of s 8 h9).symm.trans (g8 h9)], by omega⟩
    · exact Or.inr ⟨by omega, by omega⟩
  obtain ⟨S0, e0⟩ : ∃ x, x = s.extract 0 2 := ⟨_, rfl⟩
  obtain ⟨S3, e3⟩ : ∃ x, x = s.extract 3 5 := ⟨_, rfl⟩
  obtain ⟨S6, e6⟩ : ∃ x, x = s.extract 6 8 := ⟨_, rfl⟩
  have c0 : ∀ w', ReadS s w w' → (convert 52 9 (.slice (some ⟨w.heap.size, 0, none⟩) 2 2)).run Tryd.prog w' = .ok (.string S0) w' := fun w' h => by rw [e0]; exact back_any h.held 0 2 2 (by omega)
  have c3 : ∀ w', ReadS s w w' → (convert 52 9 (.slice (some ⟨w.heap.size, 3, none⟩) 2 2)).run Tryd.prog w' = .ok (.string S3) w' := fun w' h => by rw [e3]; exact back_any h.held 3 2 2 (by omega)
  have c6 : ∀ w', ReadS s w w' → (convert 52 9 (.slice (some ⟨w.heap.size, 6, none⟩) 2 2)).run Tryd.prog w' = .ok (.string S6) w' := fun w' h => by rw [e6]; exact back_any h.held 6 2 2 (by omega)
  obtain ⟨S9, e9⟩ : ∃ x, x = s.extract 9 s.size := ⟨_, rfl⟩
  have c9 : 9 ≤ s.size → ∀ w', ReadS s w w' → (convert 52 9 (.slice (some ⟨w.heap.size, 9, none⟩) (s.size - 9) (s.size - 9))).run Tryd.prog w' = .ok (.string S9) w' := fun h9 w' h => by
    have := back_any h.held 9 (s.size - 9) (s.size - 9) (by omega)
    rw [e9, this, show 9 + (s.size - 9) = s.size by omega]
  obtain ⟨p, ep⟩ : ∃ x, x = numV (restOf s).data.toList := ⟨_, rfl⟩
  have z9 : S9.size ≤ 18 := by rw [e9]; simp; omega
  have k9 : 8 < s.size → numV S9.data.toList = p := fun h => by rw [e9, ep, restOf_9 h]
  have zp := numV_6 (rest_size_i n15)
  rw [← ep] at zp
  have p8 : s.size = 8 → p = 0 := fun h => by rw [ep, restOf_8 h]; rfl
  have dd : (restOf s).size = s.size - 8 - 1 := by
    by_cases h : s.size = 8
    · rw [restOf_8 h, h]; rfl
    · rw [restOf_9 (by omega)]; simp; omega
  obtain ⟨a, ea⟩ : ∃ x, x = two s 0 := ⟨_, rfl⟩
  obtain ⟨b, eb⟩ : ∃ x, x = two s 3 := ⟨_, rfl⟩
  obtain ⟨c, ec⟩ : ∃ x, x = two s 6 := ⟨_, rfl⟩
  have z0 : S0.size ≤ 18 := by rw [e0]; simp; omega
  have z3 : S3.size ≤ 18 := by rw [e3]; simp; omega
  have z6 : S6.size ≤ 18 := by rw [e6]; simp; omega
  have k0 : numV S0.data.toList = a := by rw [e0, ea]; rfl
  have k3 : numV S3.data.toList = b := by rw [e3, eb]; rfl
  have k6 : numV S6.data.toList = c := by rw [e6, ec]; rfl
  have ba := two_bd s 0
  have bb := two_bd s 3
  have bc := two_bd s 6
  rw [← ea] at ba
  rw [← eb] at bb
  rw [← ec] at bc
  obtain ⟨a0, a1⟩ := ba
  obtain ⟨b0, b1⟩ := bb
  obtain ⟨c0', c1'⟩ := bc
  have E := Lib.hid (show a = two s 0 ∧ b = two s 3 ∧ c = two s 6 ∧ p = numV (restOf s).data.toList from ⟨ea, eb, ec, ep⟩)
  have RB : Hid (¬ (0 ≤ a ∧ 0 ≤ b ∧ 0 ≤ c ∧ a ≤ H ∧ b ≤ 59 ∧ c ≤ 59) → ReadIs s H 0 0 0 false) := Lib.hid fun hg => Or.inr ⟨rfl, fun g => hg (by rw [ea, eb, ec]; exact ⟨g.1.2.1, g.1.2.2.1.1, g.1.2.2.2.1.1, g.2, g.1.2.2.1.2, g.1.2.2.2.1.2⟩), ⟨by omega, by omega⟩, ⟨by omega, by omega⟩, by omega⟩
  have RG : Hid (∀ Y : Int, 0 ≤ a → 0 ≤ b → 0 ≤ c → a ≤ H → b ≤ 59 → c ≤ 59 → Y = a * 3600 + b * 60 + c → ReadIs s H Y p (s.size - 8 - 1) (decide (0 ≤ p))) := Lib.hid fun Y g1 g2 g3 g4 g5 g6 hY => by
    by_cases hp : 0 ≤ p
    · rw [decide_eq_true hp]
      exact Or.inl ⟨rfl, ⟨N.out, ea ▸ g1, eb ▸ ⟨g2, g5⟩, ec ▸ ⟨g3, g6⟩, ep ▸ hp⟩, ea ▸ g4, by rw [hY, ea, eb, ec]; rfl, ep, dd.symm⟩
    · rw [decide_eq_false hp]
      exact Or.inr ⟨rfl, fun g => hp (by rw [ep]; exact g.1.2.2.2.2), ⟨by omega, by omega⟩, zp, by omega⟩
  have HS : ReadS s w W := ⟨hH, hB⟩
  clear g2 g5 g8 e0 e3 e6 e9 ea eb ec ep dd
  go_enter Tryd.func23, Tryd.ntmps23
  rcases hcase with ⟨h9, p8, m9⟩ | ⟨m9, h9⟩
  · go_upto_region 4 with fail
    go_region_held3 (fun w' => ReadS s w w') (first | exact readS_drew HS | assumption) (first | (go_at_call 31; refine (value_b _ _ (by assumption)).mono ?_; rintro e w' ⟨rfl, hb⟩; have hk := readS_call (by assumption) hb; clear hb))
    by_cases hg : 0 ≤ a ∧ 0 ≤ b ∧ 0 ≤ c ∧ a ≤ H ∧ b ≤ 59 ∧ c ≤ 59
    · obtain ⟨g1, g2, g3, g4, g5, g6⟩ := hg
      have hr := Lib.hid (fun Y => RG.out Y g1 g2 g3 g4 g5 g6)
      clear RB RG E
      have c9 := c9 (by omega)
      have k9 := k9 h9
      have l9 : (9 : Int) ≤ s.size := by omega
      have lc : (s.size : Int) ≤ cap := by omega
      have d9 := Lib.hid (show ((s.size - 8 - 1 : Nat) : Int) = (s.size : Int) - 9 by omega)
      go_wp2_with (go_at_call 31; refine (value_b _ _ (by assumption)).mono ?_; rintro e w' ⟨rfl, hb⟩; have hk := readS_call (by assumption) hb; clear hb)
      all_goals
        refine bodyPost_ret (results_tmp4 rfl _ _ _) rfl ?_
        exact ⟨_, _, s.size - 8 - 1, _, by rw [d9.out]; rfl, hr.out _ rfl, ReadS.below (by assumption)⟩
    · have hr := Lib.hid (RB.out hg)
      clear RB RG E
      go_wp2_with fail
      all_goals first
        | (exfalso; clear hr; omega)
        | (refine bodyPost_ret (results_tmp4 rfl _ _ _) rfl ?_
           exact ⟨0, 0, 0, false, rfl, hr.out, ReadS.below (by assumption)⟩)
  · go_upto_region 4 with fail
    go_region_held3 (fun w' => ReadS s w w') (first | exact readS_drew HS | assumption) (first | (go_at_call 31; refine (value_b _ _ (by assumption)).mono ?_; rintro e w' ⟨rfl, hb⟩; have hk := readS_call (by assumption) hb; clear hb))
    by_cases hg : 0 ≤ a ∧ 0 ≤ b ∧ 0 ≤ c ∧ a ≤ H ∧ b ≤ 59 ∧ c ≤ 59
    · obtain ⟨g1, g2, g3, g4, g5, g6⟩ := hg
      have hr := Lib.hid (fun Y => RG.out Y g1 g2 g3 g4 g5 g6)
      clear RB RG E
      have hr : Hid (∀ Y : Int, Y = a * 3600 + b * 60 + c → ReadIs s H Y 0 0 true) := Lib.hid fun Y hY => by
        have := hr.out Y hY
        rw [p8 h9, h9] at this
        exact this
      have h88 : (s.size : Int) = 8 := by omega
      clear c9 k9
      go_wp2_with (go_at_call 31; refine (value_b _ _ (by assumption)).mono ?_; rintro e w' ⟨rfl, hb⟩; have hk := readS_call (by assumption) hb; clear hb)
      all_goals
        refine bodyPost_ret (results_tmp4 rfl _ _ _) rfl ?_
        exact ⟨_, _, 0, _, rfl, hr.out _ rfl, ReadS.below (by assumption)⟩
    · have hr := Lib.hid (RB.out hg)
      clear RB RG E
      go_wp2_with fail
      all_goals first
        | (exfalso; clear hr; omega)
        | (refine bodyPost_ret (results_tmp4 rfl _ _ _) rfl ?_
           exact ⟨0, 0, 0, false, rfl, hr.out, ReadS.below (by assumption)⟩)
theorem read_w (s : ByteArray) (H : Int) (w : World) (hs : s.size ≤ 1000) (h0 : 0 ≤ H) (h1 : H ≤ 1000) :
    Calls Tryd.prog 23 #[.string s, .int .i64 H] w (ReadPost s H w) := by
  by_cases h : shapeP s
  · exact read_ok s H w h h0 h1
  · exact read_shape s H w hs h
end Ap
end Go.Proofs.YtmafjoboikbnnaaDoor
