/-
  Lemmas and walks, texts joined: PRead2, OWord, ONumb, OCheck, Shelf2, TPad, TClk, PRRa, PDSpec, Pl, TTurn, TRa, OMag.
-/
import Derived.Deep.RegionHeld3
import Derived.Deep.Cut
import Derived.Lib.SmallJoins
import Derived.Lib.LaidTab
import Derived.Laws.Concat
import Derived.Lib.Join
import Derived.Lib.Repeat
import Derived.Lib.ItoaLen
import Derived.Sort.Grow
import Derived.Deep.OwnRows
import Derived.WalkKit
import Derived.Deep.QuietTactic
import Derived.ProofKit
import Derived.Outline
import Derived.Lib.Hide
import Derived.BigQuiet
import Derived.WalkLawsBesides
import Derived.WalkSpells
import Derived.Test.YtgodhaphbgllhaaGreatDoorOa04
import Derived.Test.YtgodhaphbgllhaaGreatDoorOa02
import Derived.Test.YtgodhaphbgllhaaGreatDoorOa01
import Derived.Test.YtgodhaphbgllhaaGreatDoorRows
set_option linter.unusedSimpArgs false
set_option linter.unusedVariables false
/-
  Reading hours or degrees: the walk of package angle's read.
-/
namespace Go.Proofs.YtgodhaphbgllhaaGreatDoor
namespace Gp
open Go.RowKit Lw

theorem results_tmp4 {fn : Func} {t u v x : Tmp} (h : fn.results = #[.tmp t, .tmp u, .tmp v, .tmp x]) (tmps : Array Value) (P : Program) (w : World) :
    (results fn tmps).run P w = .ok (.tuple #[tmps.getD t undef, tmps.getD u undef, tmps.getD v undef, tmps.getD x undef]) w := by
  simp [results, h]
/-- What the region of the three numbers needs of memory. -/
structure ReadS (s : ByteArray) (w w' : World) : Prop where
  held : Held s w.heap.size w'
  below : Below w.heap.size w w'
theorem readS_call {s : ByteArray} {w a b : World} (h : ReadS s w a) (hb : Below a.heap.size a b) : ReadS s w b := ⟨held_below h.held hb, h.below.trans (hb.mono (Nat.le_of_lt h.held.1))⟩
theorem readS_drew {s : ByteArray} {w a : World} (h : ReadS s w a) : ReadS s w a.drew := ⟨held_drew h.held, h.below.drew⟩
theorem read_bad {s : ByteArray} {H : Int} (h : ¬ validP s) : ReadIs s H 0 0 0 false := Or.inr ⟨rfl, fun g => h g.1, ⟨by omega, by omega⟩, ⟨by omega, by omega⟩, by omega⟩
set_option maxRecDepth 100000 in
set_option maxHeartbeats 8000000 in
theorem read_shape (s : ByteArray) (H : Int) (w : World) (hs : s.size ≤ 1000) (hn : ¬ shapeP s) :
    Calls Tryz.prog 99 #[.string s, .int .i64 H] w (ReadPost s H w) := by
  have N := Lib.hid hn
  have hR : Hid (ReadIs s H 0 0 0 false) := Lib.hid (read_bad fun g => hn g.1)
  clear hn
  obtain ⟨W, cap, hcv, hH, hB, hcap⟩ := bytes_in w s
  go_enter Tryz.func99, Tryz.ntmps99
  by_cases h8 : s.size < 8
  · have n8 : (s.size : Int) < 8 := by omega
    go_wp2
    all_goals
      refine bodyPost_ret (results_tmp4 rfl _ _ _) rfl ?_
      exact ⟨0, 0, 0, false, rfl, hR.out, hB⟩
  · have n8 : ¬ (s.size : Int) < 8 := by omega
    have i2 : (2 : Nat) < s.size := by omega
    have i5 : (5 : Nat) < s.size := by omega
    have p2 := at_of s 2 i2
    have p5 := at_of s 5 i5
    have q2 := hH.2 2 i2
    have q5 := hH.2 5 i5
    have m2 : (2 : Int) < s.size := by omega
    have m5 : (5 : Int) < s.size := by omega
    by_cases h9 : 8 < s.size
    · have p8 := at_of s 8 h9
      have q8 := hH.2 8 h9
      have n9 : (8 : Int) < s.size := by omega
      clear hH
      generalize ((s[2].toNat : Nat) : Int) = x2 at *
      generalize ((s[5].toNat : Nat) : Int) = x5 at *
      generalize ((s[8].toNat : Nat) : Int) = x8 at *
      have nf : ¬ (x2 = 32 ∧ x5 = 32 ∧ s.size ≠ 9 ∧ s.size ≤ 15 ∧ x8 = 46) := fun ⟨a1, a2, a3, a4, a5⟩ => N.out ⟨by omega, by omega, by omega, a3, a4, fun _ => by omega⟩
      clear p2 p5 p8
      go_wp2_with fail
      all_goals first
        | (refine bodyPost_ret (results_tmp4 rfl _ _ _) rfl ?_
           exact ⟨0, 0, 0, false, rfl, hR.out, hB⟩)
        | (exfalso; simp only [beq_iff_eq, beq_eq_false_iff_ne, bne_iff_ne, bne_eq_false_iff_eq, ne_eq] at *; exact nf ⟨by omega, by omega, by omega, by omega, by omega⟩)
    · have n9 : ¬ (8 : Int) < s.size := by omega
      have h88 : (s.size : Int) = 8 := by omega
      clear hH
      generalize ((s[2].toNat : Nat) : Int) = x2 at *
      generalize ((s[5].toNat : Nat) : Int) = x5 at *
      have nf : ¬ (x2 = 32 ∧ x5 = 32) := fun ⟨a1, a2⟩ => N.out ⟨by omega, by omega, by omega, by omega, by omega, fun g => absurd g h9⟩
      clear p2 p5
      go_wp2_with fail
      all_goals first
        | (refine bodyPost_ret (results_tmp4 rfl _ _ _) rfl ?_
           exact ⟨0, 0, 0, false, rfl, hR.out, hB⟩)
        | (exfalso; simp only [beq_eq_false_iff_ne, bne_eq_false_iff_eq, ne_eq] at *; exact nf ⟨by omega, by omega⟩)
theorem below_iter (w : World) (s : ByteArray) (k : Nat) : Below w.heap.size w (w.iter s k) := by
  exact (Below.refl _ _).alloc (Nat.le_refl _) _
theorem value_b (s : ByteArray) (w : World) (hs : s.size ≤ 18) :
    Calls Tryz.prog 149 #[.string s] w fun e w' => e = .returned (.int .i64 (numV s.data.toList)) ∧ Below w.heap.size w w' := by
  refine (value_any s w hs).mono ?_
  rintro e w' ⟨rfl, k, rfl⟩
  exact ⟨rfl, below_iter w _ k⟩
set_option maxRecDepth 100000 in
set_option maxHeartbeats 40000000 in
theorem read_ok (s : ByteArray) (H : Int) (w : World) (hn : shapeP s) (_h0 : 0 ≤ H) (_h1 : H ≤ 1000) :
    Calls Tryz.prog 99 #[.string s, .int .i64 H] w (ReadPost s H w) := by
  have N := Lib.hid hn
  obtain ⟨h8, g2, g5, n9, n15, g8⟩ := hn
  have i2 : (2 : Nat) < s.size := by omega
  have i5 : (5 : Nat) < s.size := by omega
  have p2 : (s[2].toNat : Int) = 32 := (at_of s 2 i2).symm.trans g2
  have p5 : (s[5].toNat : Int) = 32 := (at_of s 5 i5).symm.trans g5
  have n8 : ¬ (s.size : Int) < 8 := by omega
  have n9' : ¬ (s.size : Int) = 9 := by omega
  have n15' : ¬ (15 : Int) < s.size := by omega
  obtain ⟨W, cap, hcv, hH, hB, hcap⟩ := bytes_in w s
  have q2 := hH.2 2 i2
  have q5 := hH.2 5 i5
  rw [p2] at q2
  rw [p5] at q5
  have m2 : (2 : Int) < s.size := by omega
  have m5 : (5 : Int) < s.size := by omega
  have l0 : (2 : Int) ≤ cap := by omega
  have l1 : (5 : Int) ≤ cap := by omega
  have l2 : (8 : Int) ≤ cap := by omega
  have hcase : (∃ h9 : 8 < s.size, W.cell? ⟨w.heap.size, 8, none⟩ = some (.int .u8 46) ∧ (8 : Int) < s.size) ∨ (¬ (8 : Int) < s.size ∧ s.size = 8) := by
    by_cases h9 : 8 < s.size
    · exact Or.inl ⟨h9, by rw [hH.2 8 h9, (at_of s 8 h9).symm.trans (g8 h9)], by omega⟩
    · exact Or.inr ⟨by omega, by omega⟩
  obtain ⟨S0, e0⟩ : ∃ x, x = s.extract 0 2 := ⟨_, rfl⟩
  obtain ⟨S3, e3⟩ : ∃ x, x = s.extract 3 5 := ⟨_, rfl⟩
  obtain ⟨S6, e6⟩ : ∃ x, x = s.extract 6 8 := ⟨_, rfl⟩
  have c0 : ∀ w', ReadS s w w' → (convert 42 9 (.slice (some ⟨w.heap.size, 0, none⟩) 2 2)).run Tryz.prog w' = .ok (.string S0) w' := fun w' h => by rw [e0]; exact back_any h.held 0 2 2 (by omega)
  have c3 : ∀ w', ReadS s w w' → (convert 42 9 (.slice (some ⟨w.heap.size, 3, none⟩) 2 2)).run Tryz.prog w' = .ok (.string S3) w' := fun w' h => by rw [e3]; exact back_any h.held 3 2 2 (by omega)
  have c6 : ∀ w', ReadS s w w' → (convert 42 9 (.slice (some ⟨w.heap.size, 6, none⟩) 2 2)).run Tryz.prog w' = .ok (.string S6) w' := fun w' h => by rw [e6]; exact back_any h.held 6 2 2 (by omega)
  obtain ⟨S9, e9⟩ : ∃ x, x = s.extract 9 s.size := ⟨_, rfl⟩
  have c9 : 9 ≤ s.size → ∀ w', ReadS s w w' → (convert 42 9 (.slice (some ⟨w.heap.size, 9, none⟩) (s.size - 9) (s.size - 9))).run Tryz.prog w' = .ok (.string S9) w' := fun h9 w' h => by
    have := back_any h.held 9 (s.size - 9) (s.size - 9) (by omega)
    rw [e9, this, show 9 + (s.size - 9) = s.size by omega]
  obtain ⟨p, ep⟩ : ∃ x, x = numV (restOf s).data.toList := ⟨_, rfl⟩
  have z9 : S9.size ≤ 18 := by rw [e9]; simp; omega
  have k9 : 8 < s.size → numV S9.data.toList = p := fun h => by rw [e9, ep, restOf_9 h]
  have zp := numV_6 (rest_size_i n15)
  rw [← ep] at zp
  have p8 : s.size = 8 → p = 0 := fun h => by rw [ep, restOf_8 h]; rfl
  have dd : (restOf s).size = s.size - 8 - 1 := by
    by_cases h : s.size = 8
    · rw [restOf_8 h, h]; rfl
    · rw [restOf_9 (by omega)]; simp; omega
  obtain ⟨a, ea⟩ : ∃ x, x = two s 0 := ⟨_, rfl⟩
  obtain ⟨b, eb⟩ : ∃ x, x = two s 3 := ⟨_, rfl⟩
  obtain ⟨c, ec⟩ : ∃ x, x = two s 6 := ⟨_, rfl⟩
  have z0 : S0.size ≤ 18 := by rw [e0]; simp; omega
  have z3 : S3.size ≤ 18 := by rw [e3]; simp; omega
  have z6 : S6.size ≤ 18 := by rw [e6]; simp; omega
  have k0 : numV S0.data.toList = a := by rw [e0, ea]; rfl
  have k3 : numV S3.data.toList = b := by rw [e3, eb]; rfl
  have k6 : numV S6.data.toList = c := by rw [e6, ec]; rfl
  have ba := two_bd s 0
  have bb := two_bd s 3
  have bc := two_bd s 6
  rw [← ea] at ba
  rw [← eb] at bb
  rw [← ec] at bc
  obtain ⟨a0, a1⟩ := ba
  obtain ⟨b0, b1⟩ := bb
  obtain ⟨c0', c1'⟩ := bc
  have E := Lib.hid (show a = two s 0 ∧ b = two s 3 ∧ c = two s 6 ∧ p = numV (restOf s).data.toList from ⟨ea, eb, ec, ep⟩)
  have RB : Hid (¬ (0 ≤ a ∧ 0 ≤ b ∧ 0 ≤ c ∧ a ≤ H ∧ b ≤ 59 ∧ c ≤ 59) → ReadIs s H 0 0 0 false) := Lib.hid fun hg => Or.inr ⟨rfl, fun g => hg (by rw [ea, eb, ec]; exact ⟨g.1.2.1, g.1.2.2.1.1, g.1.2.2.2.1.1, g.2, g.1.2.2.1.2, g.1.2.2.2.1.2⟩), ⟨by omega, by omega⟩, ⟨by omega, by omega⟩, by omega⟩
  have RG : Hid (∀ Y : Int, 0 ≤ a → 0 ≤ b → 0 ≤ c → a ≤ H → b ≤ 59 → c ≤ 59 → Y = a * 3600 + b * 60 + c → ReadIs s H Y p (s.size - 8 - 1) (decide (0 ≤ p))) := Lib.hid fun Y g1 g2 g3 g4 g5 g6 hY => by
    by_cases hp : 0 ≤ p
    · rw [decide_eq_true hp]
      exact Or.inl ⟨rfl, ⟨N.out, ea ▸ g1, eb ▸ ⟨g2, g5⟩, ec ▸ ⟨g3, g6⟩, ep ▸ hp⟩, ea ▸ g4, by rw [hY, ea, eb, ec]; rfl, ep, dd.symm⟩
    · rw [decide_eq_false hp]
      exact Or.inr ⟨rfl, fun g => hp (by rw [ep]; exact g.1.2.2.2.2), ⟨by omega, by omega⟩, zp, by omega⟩
  have HS : ReadS s w W := ⟨hH, hB⟩
  clear g2 g5 g8 e0 e3 e6 e9 ea eb ec ep dd
  go_enter Tryz.func99, Tryz.ntmps99
  rcases hcase with ⟨h9, p8, m9⟩ | ⟨m9, h9⟩
  · go_upto_region 4 with fail
    go_region_held3 (fun w' => ReadS s w w') (first | exact readS_drew HS | assumption) (first | (go_at_call 149; refine (value_b _ _ (by assumption)).mono ?_; rintro e w' ⟨rfl, hb⟩; have hk := readS_call (by assumption) hb; clear hb))
    by_cases hg : 0 ≤ a ∧ 0 ≤ b ∧ 0 ≤ c ∧ a ≤ H ∧ b ≤ 59 ∧ c ≤ 59
    · obtain ⟨g1, g2, g3, g4, g5, g6⟩ := hg
      have hr := Lib.hid (fun Y => RG.out Y g1 g2 g3 g4 g5 g6)
      clear RB RG E
      have c9 := c9 (by omega)
      have k9 := k9 h9
      have l9 : (9 : Int) ≤ s.size := by omega
      have lc : (s.size : Int) ≤ cap := by omega
      have d9 := Lib.hid (show ((s.size - 8 - 1 : Nat) : Int) = (s.size : Int) - 9 by omega)
      go_wp2_with (go_at_call 149; refine (value_b _ _ (by assumption)).mono ?_; rintro e w' ⟨rfl, hb⟩; have hk := readS_call (by assumption) hb; clear hb)
      all_goals
        refine bodyPost_ret (results_tmp4 rfl _ _ _) rfl ?_
        exact ⟨_, _, s.size - 8 - 1, _, by rw [d9.out]; rfl, hr.out _ rfl, ReadS.below (by assumption)⟩
    · have hr := Lib.hid (RB.out hg)
      clear RB RG E
      go_wp2_with fail
      all_goals first
        | (exfalso; clear hr; omega)
        | (refine bodyPost_ret (results_tmp4 rfl _ _ _) rfl ?_
           exact ⟨0, 0, 0, false, rfl, hr.out, ReadS.below (by assumption)⟩)
  · go_upto_region 4 with fail
    go_region_held3 (fun w' => ReadS s w w') (first | exact readS_drew HS | assumption) (first | (go_at_call 149; refine (value_b _ _ (by assumption)).mono ?_; rintro e w' ⟨rfl, hb⟩; have hk := readS_call (by assumption) hb; clear hb))
    by_cases hg : 0 ≤ a ∧ 0 ≤ b ∧ 0 ≤ c ∧ a ≤ H ∧ b ≤ 59 ∧ c ≤ 59
    · obtain ⟨g1, g2, g3, g4, g5, g6⟩ := hg
      have hr := Lib.hid (fun Y => RG.out Y g1 g2 g3 g4 g5 g6)
      clear RB RG E
      have hr : Hid (∀ Y : Int, Y = a * 3600 + b * 60 + c → ReadIs s H Y 0 0 true) := Lib.hid fun Y hY => by
        have := hr.out Y hY
        rw [p8 h9, h9] at this
        exact this
      have h88 : (s.size : Int) = 8 := by omega
      clear c9 k9
      go_wp2_with (go_at_call 149; refine (value_b _ _ (by assumption)).mono ?_; rintro e w' ⟨rfl, hb⟩; have hk := readS_call (by assumption) hb; clear hb)
      all_goals
        refine bodyPost_ret (results_tmp4 rfl _ _ _) rfl ?_
        exact ⟨_, _, 0, _, rfl, hr.out _ rfl, ReadS.below (by assumption)⟩
    · have hr := Lib.hid (RB.out hg)
      clear RB RG E
      go_wp2_with fail
      all_goals first
        | (exfalso; clear hr; omega)
        | (refine bodyPost_ret (results_tmp4 rfl _ _ _) rfl ?_
           exact ⟨0, 0, 0, false, rfl, hr.out, ReadS.below (by assumption)⟩)
theorem read_w (s : ByteArray) (H : Int) (w : World) (hs : s.size ≤ 1000) (h0 : 0 ≤ H) (h1 : H ≤ 1000) :
    Calls Tryz.prog 99 #[.string s, .int .i64 H] w (ReadPost s H w) := by
  by_cases h : shapeP s
  · exact read_ok s H w h h0 h1
  · exact read_shape s H w hs h
end Gp
end Go.Proofs.YtgodhaphbgllhaaGreatDoor
/-
  The walks of isDigit, isLetter, isWord of package obs, and of digit, letter, word, digits of the reference.
-/
namespace Go.Proofs.YtgodhaphbgllhaaGreatDoor
namespace Ow
open Go.RowKit Lw Go.Proofs.YtgodhaphbgllhaaGreatDoor.Ap Go.Proofs.YtgodhaphbgllhaaGreatDoor.Op

theorem dgB_cases (r : Int) : (48 ≤ r ∧ r ≤ 57 ∧ dgB r = true) ∨ (r < 48 ∧ dgB r = false) ∨ (48 ≤ r ∧ 57 < r ∧ dgB r = false) := by
  by_cases h : 48 ≤ r
  · by_cases g : r ≤ 57
    · exact Or.inl ⟨h, g, decide_eq_true ⟨h, g⟩⟩
    · exact Or.inr (Or.inr ⟨h, by omega, decide_eq_false fun x => g x.2⟩)
  · exact Or.inr (Or.inl ⟨by omega, decide_eq_false fun x => h x.1⟩)
theorem ltB_cases (r : Int) : (65 ≤ r ∧ r ≤ 90 ∧ ltB r = true) ∨ (97 ≤ r ∧ r ≤ 122 ∧ ltB r = true) ∨ (r < 65 ∧ ltB r = false) ∨ (90 < r ∧ r < 97 ∧ ltB r = false) ∨ (122 < r ∧ ltB r = false) := by
  by_cases h : 65 ≤ r ∧ r ≤ 90
  · exact Or.inl ⟨h.1, h.2, decide_eq_true (Or.inl h)⟩
  · by_cases g : 97 ≤ r ∧ r ≤ 122
    · exact Or.inr (Or.inl ⟨g.1, g.2, decide_eq_true (Or.inr g)⟩)
    · have n : ltB r = false := decide_eq_false fun x => by rcases x with x | x <;> omega
      by_cases a : r < 65
      · exact Or.inr (Or.inr (Or.inl ⟨a, n⟩))
      · by_cases b : r < 97
        · exact Or.inr (Or.inr (Or.inr (Or.inl ⟨by omega, b, n⟩)))
        · exact Or.inr (Or.inr (Or.inr (Or.inr ⟨by omega, n⟩)))
set_option maxHeartbeats 400000 in
theorem isDigit_any (r : Int) (w : World) : Calls Tryz.prog 101 #[.int .i32 r] w fun e w' => e = .returned (.bool (dgB r)) ∧ w = w' := by
  rcases dgB_cases r with ⟨h, g, e⟩ | ⟨h, e⟩ | ⟨h, g, e⟩
  all_goals
    rw [e]
    clear e
    go_enter Tryz.func101, Tryz.ntmps101
    go_wp2
    go_ret
    first
      | exact ⟨rfl, rfl⟩
      | exact ⟨ret_b (by simp; omega), rfl⟩
set_option maxHeartbeats 400000 in
theorem isLetter_any (r : Int) (w : World) : Calls Tryz.prog 56 #[.int .i32 r] w fun e w' => e = .returned (.bool (ltB r)) ∧ w = w' := by
  rcases ltB_cases r with ⟨h, g, e⟩ | ⟨h, g, e⟩ | ⟨h, e⟩ | ⟨h, g, e⟩ | ⟨h, e⟩
  all_goals
    rw [e]
    clear e
    go_enter Tryz.func56, Tryz.ntmps56
    go_wp2
    go_ret
    first
      | exact ⟨rfl, rfl⟩
      | exact ⟨ret_b (by simp; omega), rfl⟩
set_option maxHeartbeats 400000 in
theorem rdigit_any (r : Int) (w : World) : Calls Tryz.prog 107 #[.int .u8 r] w fun e w' => e = .returned (.bool (dgB r)) ∧ w = w' := by
  rcases dgB_cases r with ⟨h, g, e⟩ | ⟨h, e⟩ | ⟨h, g, e⟩
  all_goals
    rw [e]
    clear e
    go_enter Tryz.func107, Tryz.ntmps107
    go_wp2
    go_ret
    first
      | exact ⟨rfl, rfl⟩
      | exact ⟨ret_b (by simp; omega), rfl⟩
set_option maxHeartbeats 400000 in
theorem rletter_any (r : Int) (w : World) : Calls Tryz.prog 60 #[.int .u8 r] w fun e w' => e = .returned (.bool (ltB r)) ∧ w = w' := by
  rcases ltB_cases r with ⟨h, g, e⟩ | ⟨h, g, e⟩ | ⟨h, e⟩ | ⟨h, g, e⟩ | ⟨h, e⟩
  all_goals
    rw [e]
    clear e
    go_enter Tryz.func60, Tryz.ntmps60
    go_wp2
    go_ret
    first
      | exact ⟨rfl, rfl⟩
      | exact ⟨ret_b (by simp; omega), rfl⟩
/-- A byte that is no letter and no digit, or the byte itself, as the range over a string gives it. -/
theorem rune_word {s : ByteArray} {k : Nat} (hlt : k < s.size) : (Utf8.decode s k = ((s[k]'hlt).toNat, 1)) ∨ (¬ (dgP (s[k].toNat : Int) ∨ ltP (s[k].toNat : Int)) ∧ 128 ≤ ((Utf8.decode s k).1 : Int) ∧ ((Utf8.decode s k).1 : Int) ≤ 2147483647) := by
  by_cases ha : (s[k]'hlt).toNat < 128
  · exact Or.inl (decode_ascii s k hlt ha)
  · have := (decode_high s k hlt (by omega)).1
    have := decode_le s k
    refine Or.inr ⟨fun h => ?_, by omega, by omega⟩
    unfold dgP ltP at h
    omega
theorem dg_cases (c : Int) : (dgP c ∧ dgB c = true) ∨ (¬ dgP c ∧ dgB c = false) := by
  by_cases h : dgP c
  · exact Or.inl ⟨h, decide_eq_true h⟩
  · exact Or.inr ⟨h, decide_eq_false h⟩
theorem lt_cases (c : Int) : (ltP c ∧ ltB c = true) ∨ (¬ ltP c ∧ ltB c = false) := by
  by_cases h : ltP c
  · exact Or.inl ⟨h, decide_eq_true h⟩
  · exact Or.inr ⟨h, decide_eq_false h⟩
set_option maxHeartbeats 1000000 in
theorem isWord_it (s : ByteArray) (w : World) (hs : s.size ≤ maxLen) :
    Calls Tryz.prog 55 #[.string s] w fun e w' => e = .returned (.bool (wordB s.data.toList)) ∧ ∃ k, w' = w.iter s k := by
  unfold maxLen at hs
  go_enter Tryz.func55, Tryz.ntmps55
  go_wp2
  go_loopw [4] (fun n w' => ∃ k : Nat, k ≤ s.size ∧ w' = w.iter s k ∧ Hid (wordP (s.data.toList.take k))) (fun _ w' => s.size - w'.iterPos w.heap.size)
  case atStart => exact ⟨0, Nat.zero_le _, rfl, Lib.hid (by intro c hc; simp at hc)⟩
  case round =>
    obtain ⟨k, hk, rfl, D⟩ := hrel
    by_cases hlt : k < s.size
    · have hnx : ∀ ty, (Instr.next (.pointer (some ⟨w.heap.size, 0, none⟩)) true ty).run Tryz.prog (w.iter s k) = _ := fun ty => run_next_any w s k ty hlt
      have bb := byte_bd s[k]
      rcases rune_word hlt with hr | ⟨d, r1, r2⟩
      · rw [hr] at hnx
        rcases dg_cases (s[k].toNat : Int) with ⟨d1, e1⟩ | ⟨d1, e1⟩
        · have D2 := Lib.hid (show wordP (s.data.toList.take (k + 1)) by rw [take_snoc s k hlt]; exact wordP_snoc D.out (Or.inl d1))
          clear d1
          go_wp2_with (first | (go_at_call 101; refine (isDigit_any _ _).mono ?_; rintro e w' ⟨rfl, rfl⟩) | (go_at_call 56; refine (isLetter_any _ _).mono ?_; rintro e w' ⟨rfl, rfl⟩))
          go_roundw
          case rel => exact ⟨k + 1, by omega, rfl, D2⟩
          case measure => simp; omega
        · rcases lt_cases (s[k].toNat : Int) with ⟨d2, e2⟩ | ⟨d2, e2⟩
          · have D2 := Lib.hid (show wordP (s.data.toList.take (k + 1)) by rw [take_snoc s k hlt]; exact wordP_snoc D.out (Or.inr d2))
            clear d1 d2
            go_wp2_with (first | (go_at_call 101; refine (isDigit_any _ _).mono ?_; rintro e w' ⟨rfl, rfl⟩) | (go_at_call 56; refine (isLetter_any _ _).mono ?_; rintro e w' ⟨rfl, rfl⟩))
            go_roundw
            case rel => exact ⟨k + 1, by omega, rfl, D2⟩
            case measure => simp; omega
          · have N := Lib.hid (word_not s k hlt (fun h => h.elim d1 d2))
            clear d1 d2
            go_wp2_with (first | (go_at_call 101; refine (isDigit_any _ _).mono ?_; rintro e w' ⟨rfl, rfl⟩) | (go_at_call 56; refine (isLetter_any _ _).mono ?_; rintro e w' ⟨rfl, rfl⟩))
            go_ret
            exact ⟨ret_b N.out.symm, _, rfl⟩
      · have N := Lib.hid (word_not s k hlt d)
        clear d
        generalize (Utf8.decode s k).1 = r at *
        have e1 : dgB (r : Int) = false := decide_eq_false fun h => by unfold dgP at h; omega
        have e2 : ltB (r : Int) = false := decide_eq_false fun h => by unfold ltP at h; omega
        go_wp2_with (first | (go_at_call 101; refine (isDigit_any _ _).mono ?_; rintro e w' ⟨rfl, rfl⟩) | (go_at_call 56; refine (isLetter_any _ _).mono ?_; rintro e w' ⟨rfl, rfl⟩))
        go_ret
        exact ⟨ret_b N.out.symm, _, rfl⟩
    · have hnx : ∀ ty, (Instr.next (.pointer (some ⟨w.heap.size, 0, none⟩)) true ty).run Tryz.prog (w.iter s k) = _ := fun ty => run_next_end w s k ty hlt
      have N := Lib.hid (word_all s k hlt D.out)
      go_wp2
      go_ret
      exact ⟨ret_b N.out.symm, _, rfl⟩
theorem isWord_any (s : ByteArray) (w : World) (hs : s.size ≤ maxLen) :
    Calls Tryz.prog 55 #[.string s] w fun e w' => e = .returned (.bool (wordB s.data.toList)) ∧ Below w.heap.size w w' :=
  (isWord_it s w hs).mono fun _ _ ⟨he, k, hk⟩ => ⟨he, hk ▸ Gp.below_iter w s k⟩
set_option maxHeartbeats 1000000 in
theorem rword_any (s : ByteArray) (w : World) (hs : s.size ≤ maxLen) :
    Calls Tryz.prog 59 #[.string s] w fun e w' => e = .returned (.bool (wordB s.data.toList)) ∧ w = w' := by
  unfold maxLen at hs
  go_enter Tryz.func59, Tryz.ntmps59
  go_wp2
  go_loop [3] (fun i => ∃ k : Nat, k ≤ s.size ∧ i = .int .i64 k ∧ Hid (wordP (s.data.toList.take k))) (fun i => s.size - (intOf i).toNat)
  case atStart => exact ⟨0, Nat.zero_le _, rfl, Lib.hid (by intro c hc; simp at hc)⟩
  case round =>
    obtain ⟨k, hk, rfl, D⟩ := hrel
    by_cases hlt : k < s.size
    · have bb := byte_bd s[k]
      rcases dg_cases (s[k].toNat : Int) with ⟨d1, e1⟩ | ⟨d1, e1⟩
      · have D2 := Lib.hid (show wordP (s.data.toList.take (k + 1)) by rw [take_snoc s k hlt]; exact wordP_snoc D.out (Or.inl d1))
        clear d1
        go_wp2_with (first | (go_at_call 107; refine (rdigit_any _ _).mono ?_; rintro e w' ⟨rfl, rfl⟩) | (go_at_call 60; refine (rletter_any _ _).mono ?_; rintro e w' ⟨rfl, rfl⟩))
        go_round
        case rel => exact ⟨k + 1, by omega, by go_num, D2⟩
        case measure => simp [intOf]; omega
      · rcases lt_cases (s[k].toNat : Int) with ⟨d2, e2⟩ | ⟨d2, e2⟩
        · have D2 := Lib.hid (show wordP (s.data.toList.take (k + 1)) by rw [take_snoc s k hlt]; exact wordP_snoc D.out (Or.inr d2))
          clear d1 d2
          go_wp2_with (first | (go_at_call 107; refine (rdigit_any _ _).mono ?_; rintro e w' ⟨rfl, rfl⟩) | (go_at_call 60; refine (rletter_any _ _).mono ?_; rintro e w' ⟨rfl, rfl⟩))
          go_round
          case rel => exact ⟨k + 1, by omega, by go_num, D2⟩
          case measure => simp [intOf]; omega
        · have N := Lib.hid (word_not s k hlt (fun h => h.elim d1 d2))
          clear d1 d2
          go_wp2_with (first | (go_at_call 107; refine (rdigit_any _ _).mono ?_; rintro e w' ⟨rfl, rfl⟩) | (go_at_call 60; refine (rletter_any _ _).mono ?_; rintro e w' ⟨rfl, rfl⟩))
          go_ret
          exact ⟨ret_b N.out.symm, rfl⟩
    · have N := Lib.hid (word_all s k hlt D.out)
      go_wp2
      go_ret
      exact ⟨ret_b N.out.symm, rfl⟩
theorem digs_not (s : ByteArray) (k : Nat) (hk : k < s.size) (h : ¬ dgP (s[k].toNat : Int)) : digsB s.data.toList = false := by
  refine decide_eq_false fun g => h (g.2 _ ?_)
  have : s[k] = s.data.toList[k]'(by simpa using hk) := rfl
  rw [this]; exact List.getElem_mem _
theorem digs_all (s : ByteArray) (k : Nat) (hk : ¬ k < s.size) (h : allD (s.data.toList.take k)) : digsB s.data.toList = decide (0 < s.size) := by
  rw [take_all s k hk] at h
  refine decide_eq_decide.2 ⟨fun g => by simpa using g.1, fun g => ⟨by simpa using g, h⟩⟩
set_option maxHeartbeats 1000000 in
theorem rdigits_any (s : ByteArray) (w : World) (hs : s.size ≤ maxLen) :
    Calls Tryz.prog 106 #[.string s] w fun e w' => e = .returned (.bool (digsB s.data.toList)) ∧ w = w' := by
  unfold maxLen at hs
  go_enter Tryz.func106, Tryz.ntmps106
  go_wp2
  go_loop [3] (fun i => ∃ k : Nat, k ≤ s.size ∧ i = .int .i64 k ∧ Hid (allD (s.data.toList.take k))) (fun i => s.size - (intOf i).toNat)
  case atStart => exact ⟨0, Nat.zero_le _, rfl, Lib.hid (by intro c hc; simp at hc)⟩
  case round =>
    obtain ⟨k, hk, rfl, D⟩ := hrel
    by_cases hlt : k < s.size
    · have bb := byte_bd s[k]
      rcases dg_cases (s[k].toNat : Int) with ⟨d1, e1⟩ | ⟨d1, e1⟩
      · have D2 := Lib.hid (show allD (s.data.toList.take (k + 1)) by rw [take_snoc s k hlt]; exact allD_snoc D.out d1.1 d1.2)
        clear d1
        go_wp2_with (go_at_call 107; refine (rdigit_any _ _).mono ?_; rintro e w' ⟨rfl, rfl⟩)
        go_round
        case rel => exact ⟨k + 1, by omega, by go_num, D2⟩
        case measure => simp [intOf]; omega
      · have N := Lib.hid (digs_not s k hlt d1)
        clear d1
        go_wp2_with (go_at_call 107; refine (rdigit_any _ _).mono ?_; rintro e w' ⟨rfl, rfl⟩)
        go_ret
        exact ⟨ret_b N.out.symm, rfl⟩
    · have N := Lib.hid (digs_all s k hlt D.out)
      by_cases z : 0 < s.size
      · have z2 : (0 : Int) < s.size := by omega
        go_wp2
        go_ret
        exact ⟨ret_b (by rw [N.out, decide_eq_true z]), rfl⟩
      · have z2 : s.size = 0 := by omega
        have Z := Lib.hid z2
        clear z2
        have z3 : ¬ (0 : Int) < s.size := by omega
        go_wp2
        go_ret
        exact ⟨ret_b (by rw [N.out]; simp [z]), rfl⟩
end Ow
end Go.Proofs.YtgodhaphbgllhaaGreatDoor
/-
  The walks of isNumbered, isName of package obs, and of Numbered, Name of the reference.
-/
namespace Go.Proofs.YtgodhaphbgllhaaGreatDoor
namespace Ow
open Go.RowKit Lw Go.Proofs.YtgodhaphbgllhaaGreatDoor.Ap Go.Proofs.YtgodhaphbgllhaaGreatDoor.Op

/-- The variable ErrSyntax reads as an error. -/
def ES (w : World) : Prop := 3 < w.heap.size ∧ ∃ ev, w.cell? ⟨3, 0, none⟩ = some ev ∧ (ev = .nilIface ∨ ∃ te pe, ev = .iface te pe)
theorem ES.below {w w' : World} (h : ES w) (hb : Below w.heap.size w w') : ES w' := by
  obtain ⟨lt, ev, h1, h2⟩ := h
  exact ⟨Nat.lt_of_lt_of_le lt hb.size, ev, (hb.cell (p := ⟨3, 0, none⟩) lt).trans h1, h2⟩
theorem pu_step {M acc : Nat} {c : UInt8} {r : List UInt8} (h : 48 ≤ c.toNat ∧ c.toNat ≤ 57) (ha : acc ≤ 1000) (hM : 65535 ≤ M) : Lib.parseUintM M acc (c :: r) = Lib.parseUintM M (acc * 10 + (c.toNat - 48)) r := by
  rw [Lib.parseUintM, if_pos h, if_neg (by omega), if_neg (by omega)]
/-- What is answered for no number. -/
def noNum : Lib.NumEnd Nat := Lib.parseUintB 16 []
theorem pu_stop {M acc : Nat} {c : UInt8} {r : List UInt8} (h : ¬ (48 ≤ c.toNat ∧ c.toNat ≤ 57)) : Lib.parseUintM M acc (c :: r) = noNum := by
  rw [Lib.parseUintM, if_neg h]
  rfl
/-- Four bytes are digits, or no number. -/
theorem pu_cases {l : List UInt8} (h : l.length = 4) : (digsB l = true ∧ ∃ u, Lib.parseUintB 16 l = .ok u) ∨ (digsB l = false ∧ Lib.parseUintB 16 l = noNum) := by
  match l, h with
  | [a, b, c, d], _ =>
    unfold Lib.parseUintB
    rw [if_neg (by simp)]
    have nd : ∀ x ∈ [a, b, c, d], ¬ (48 ≤ x.toNat ∧ x.toNat ≤ 57) → digsB [a, b, c, d] = false := fun x hx hn => decide_eq_false fun g => hn (by have := g.2 x hx; omega)
    by_cases ha : 48 ≤ a.toNat ∧ a.toNat ≤ 57
    · rw [pu_step ha (by omega) (by omega)]
      by_cases hb : 48 ≤ b.toNat ∧ b.toNat ≤ 57
      · rw [pu_step hb (by omega) (by omega)]
        by_cases hc : 48 ≤ c.toNat ∧ c.toNat ≤ 57
        · rw [pu_step hc (by omega) (by omega)]
          by_cases hd : 48 ≤ d.toNat ∧ d.toNat ≤ 57
          · rw [pu_step hd (by omega) (by omega)]
            refine Or.inl ⟨decide_eq_true ⟨by simp, fun x hx => ?_⟩, _, rfl⟩
            simp only [List.mem_cons, List.not_mem_nil, or_false] at hx
            rcases hx with rfl | rfl | rfl | rfl <;> omega
          · rw [pu_stop hd]; exact Or.inr ⟨nd d (by simp) hd, rfl⟩
        · rw [pu_stop hc]; exact Or.inr ⟨nd c (by simp) hc, rfl⟩
      · rw [pu_stop hb]; exact Or.inr ⟨nd b (by simp) hb, rfl⟩
    · rw [pu_stop ha]; exact Or.inr ⟨nd a (by simp) ha, rfl⟩
theorem numb_of {s : ByteArray} (hs : s.size = 5) : numbB s = ((decide (bt s 0 = 126) && wordB (s.extract 1 5).data.toList) || (wordB (s.extract 0 1).data.toList && digsB (s.extract 1 5).data.toList)) := by
  unfold numbB numbP wordB digsB
  simp only [hs, true_and, Bool.decide_or, Bool.decide_and]
theorem dig_word {l : List UInt8} (h : digsB l = true) : wordB l = true := by
  have := of_decide_eq_true h
  exact decide_eq_true fun c hc => Or.inl (this.2 c hc)
/-- What ParseUint returns of four bytes. -/
theorem pu_any (l : ByteArray) (w : World) (hE : ES w) (h : l.size = 4) :
    Calls Tryz.prog 85 #[.string l, .int .i64 10, .int .i64 16] w fun e w' => ∃ u V, e = .returned (.tuple #[.int .u64 u, V]) ∧ ((digsB l.data.toList = true ∧ V = .nilIface) ∨ (digsB l.data.toList = false ∧ ∃ t p, V = .iface t (.pointer (some p)))) ∧ Below w.heap.size w w' := by
  rcases pu_cases (l := l.data.toList) (by simpa using h) with ⟨d, u, hu⟩ | ⟨d, hu⟩
  · refine (Tryz.strconv_ParseUint_10_at16_ok l (by omega) u hu w).mono ?_
    rintro e w' ⟨rfl, hw⟩
    refine ⟨_, _, rfl, Or.inl ⟨d, rfl⟩, ?_⟩
    rcases hw with rfl | rfl
    · exact Below.refl _ _
    · exact Lib.bytesWorld_below _ _ _
  · obtain ⟨lt, ev, h1, h2⟩ := hE
    refine (Tryz.strconv_ParseUint_10_at16_syntax l (by omega) hu ev w h1 h2).mono ?_
    rintro e w' ⟨N, rfl, -, -, hb⟩
    exact ⟨_, _, rfl, Or.inr ⟨d, _, _, rfl⟩, hb⟩
set_option maxRecDepth 100000 in
set_option maxHeartbeats 4000000 in
theorem isNumb_any (s : ByteArray) (w : World) (hE : ES w) (hs : s.size ≤ maxLen) :
    Calls Tryz.prog 38 #[.string s] w fun e w' => e = .returned (.bool (numbB s)) ∧ Below w.heap.size w w' := by
  by_cases h5 : s.size = 5
  · have N := numb_of h5
    have z1 : (s.extract 1 5).size = 4 := by simp; omega
    have z0 : (s.extract 0 1).size ≤ maxLen := by simp; unfold maxLen; omega
    have PU := Lib.hid (pu_any (s.extract 1 5) w hE z1)
    have W1 := Lib.hid (fun w' => isWord_any (s.extract 1 5) w' (by unfold maxLen; omega))
    have W0 := Lib.hid (fun w' => isWord_any (s.extract 0 1) w' z0)
    have DW := Lib.hid (fun (h : digsB (s.extract 1 5).data.toList = true) => dig_word h)
    obtain ⟨c, hc⟩ : ∃ c : UInt8, s[0]'(by omega) = c := ⟨_, rfl⟩
    have b0 : bt s 0 = (c.toNat : Int) := by rw [bt_of s 0 (by omega), hc]
    rw [b0] at N
    have N := Lib.hid N
    generalize wordB (s.extract 1 5).data.toList = q1 at *
    generalize wordB (s.extract 0 1).data.toList = q0 at *
    generalize digsB (s.extract 1 5).data.toList = dd at *
    have i0 : 0 < s.size := by omega
    clear z1 z0 hE hs b0
    go_enter Tryz.func38, Tryz.ntmps38
    go_wp2_with fail
    refine PU.out.mono ?_
    rintro e w1 ⟨u, V, rfl, hV, hb⟩
    have B1 := Lib.hid hb
    clear hb PU
    by_cases h126 : (c.toNat : Int) = 126
    · have N2 := Lib.hid (N.out.trans (by rw [decide_eq_true h126]; rfl : _ = (q1 || (q0 && dd))))
      clear N
      cases q1
      · have d0 : dd = false := by
          cases dd
          · rfl
          · exact absurd (DW.out rfl) (by simp)
        subst d0
        cases q0
        all_goals
          rcases hV with ⟨hd, rfl⟩ | ⟨hd, t, p, rfl⟩
          · cases hd
          go_wp2_with (first | ((with_reducible refine (W1.out _).mono ?_); rintro e w2 ⟨rfl, hb2⟩) | ((with_reducible refine (W0.out _).mono ?_); rintro e w3 ⟨rfl, hb3⟩))
          go_ret
          refine ⟨?_, ?_⟩
          · rw [N2.out]; rfl
          · first | exact below_then (below_then B1.out hb2) hb3 | exact below_then B1.out hb2
      · clear hV
        go_wp2_with (first | ((with_reducible refine (W1.out _).mono ?_); rintro e w2 ⟨rfl, hb2⟩) | ((with_reducible refine (W0.out _).mono ?_); rintro e w3 ⟨rfl, hb3⟩))
        go_ret
        refine ⟨?_, ?_⟩
        · rw [N2.out]; rfl
        · exact below_then B1.out hb2
    · have N2 := Lib.hid (N.out.trans (by rw [decide_eq_false h126]; rfl : _ = (q0 && dd)))
      clear N
      cases q0
      · clear hV
        go_wp2_with (first | ((with_reducible refine (W1.out _).mono ?_); rintro e w2 ⟨rfl, hb2⟩) | ((with_reducible refine (W0.out _).mono ?_); rintro e w3 ⟨rfl, hb3⟩))
        go_ret
        refine ⟨?_, ?_⟩
        · rw [N2.out]; rfl
        · exact below_then B1.out hb3
      · rcases hV with ⟨rfl, rfl⟩ | ⟨rfl, t, p, rfl⟩
        · obtain rfl := DW.out rfl
          go_wp2_with fail
          refine (W0.out _).mono ?_
          rintro e w3 ⟨rfl, hb3⟩
          have B3 := Lib.hid (below_then B1.out hb3)
          clear hb3
          go_wp2_with fail
          refine (W1.out _).mono ?_
          rintro e w4 ⟨rfl, hb4⟩
          have B4 := Lib.hid (below_then B3.out hb4)
          clear hb4
          go_wp2_with fail
          go_ret
          exact ⟨by rw [N2.out]; rfl, B4.out⟩
        · go_wp2_with fail
          refine (W0.out _).mono ?_
          rintro e w3 ⟨rfl, hb3⟩
          have B3 := Lib.hid (below_then B1.out hb3)
          clear hb3
          go_wp2_with fail
          go_ret
          exact ⟨by rw [N2.out]; rfl, B3.out⟩
  · have N := Lib.hid (show numbB s = false from decide_eq_false fun g => h5 g.1)
    have h5' : ¬ (s.size : Int) = 5 := by omega
    have h6 : ((s.size : Int) == 5) = false := by simpa using h5'
    have h7 : ((s.size : Int) != 5) = true := by simpa using h5'
    go_enter Tryz.func38, Tryz.ntmps38
    go_wp2_with fail
    go_ret
    exact ⟨by rw [N.out]; rfl, Below.refl _ _⟩
set_option maxRecDepth 100000 in
set_option maxHeartbeats 4000000 in
theorem rnumb_any (s : ByteArray) (w : World) (hs : s.size ≤ maxLen) :
    Calls Tryz.prog 51 #[.string s] w fun e w' => e = .returned (.bool (numbB s)) ∧ w = w' := by
  by_cases h5 : s.size = 5
  · have N := numb_of h5
    have z1 : (s.extract 1 5).size = 4 := by simp; omega
    have z0 : (s.extract 0 1).size ≤ maxLen := by simp; unfold maxLen; omega
    have W1 := Lib.hid (fun w' => rword_any (s.extract 1 5) w' (by unfold maxLen; omega))
    have W0 := Lib.hid (fun w' => rword_any (s.extract 0 1) w' z0)
    have DG := Lib.hid (fun w' => rdigits_any (s.extract 1 5) w' (by unfold maxLen; omega))
    obtain ⟨c, hc⟩ : ∃ c : UInt8, s[0]'(by omega) = c := ⟨_, rfl⟩
    have b0 : bt s 0 = (c.toNat : Int) := by rw [bt_of s 0 (by omega), hc]
    rw [b0] at N
    have N := Lib.hid N
    generalize wordB (s.extract 1 5).data.toList = q1 at *
    generalize wordB (s.extract 0 1).data.toList = q0 at *
    generalize digsB (s.extract 1 5).data.toList = dd at *
    have i0 : 0 < s.size := by omega
    clear z1 z0 hs b0
    by_cases h126 : (c.toNat : Int) = 126
    · have N2 := Lib.hid (N.out.trans (by rw [decide_eq_true h126]; rfl : _ = (q1 || (q0 && dd))))
      clear N
      cases q1 <;> cases q0 <;> cases dd
      all_goals
        go_enter Tryz.func51, Tryz.ntmps51
        go_wp2_with (first | ((with_reducible refine (W1.out _).mono ?_); rintro e w2 ⟨rfl, rfl⟩) | ((with_reducible refine (W0.out _).mono ?_); rintro e w3 ⟨rfl, rfl⟩) | ((with_reducible refine (DG.out _).mono ?_); rintro e w4 ⟨rfl, rfl⟩))
        go_ret
        exact ⟨by rw [N2.out]; rfl, rfl⟩
    · have N2 := Lib.hid (N.out.trans (by rw [decide_eq_false h126]; rfl : _ = (q0 && dd)))
      clear N
      cases q0 <;> cases dd
      all_goals
        go_enter Tryz.func51, Tryz.ntmps51
        go_wp2_with (first | ((with_reducible refine (W0.out _).mono ?_); rintro e w3 ⟨rfl, rfl⟩) | ((with_reducible refine (DG.out _).mono ?_); rintro e w4 ⟨rfl, rfl⟩))
        go_ret
        exact ⟨by rw [N2.out]; rfl, rfl⟩
  · have N := Lib.hid (show numbB s = false from decide_eq_false fun g => h5 g.1)
    have h5' : ¬ (s.size : Int) = 5 := by omega
    have h6 : ((s.size : Int) == 5) = false := by simpa using h5'
    have h7 : ((s.size : Int) != 5) = true := by simpa using h5'
    go_enter Tryz.func51, Tryz.ntmps51
    go_wp2_with fail
    go_ret
    exact ⟨by rw [N.out]; rfl, rfl⟩
theorem name_cases (s : ByteArray) : (numbB s = true ∧ nameB s = true) ∨ (numbB s = false ∧ ((s.size < 1 ∧ nameB s = false) ∨ (1 ≤ s.size ∧ 7 < s.size ∧ nameB s = false) ∨ (1 ≤ s.size ∧ s.size ≤ 7 ∧ nameB s = wordB s.data.toList))) := by
  by_cases h : numbP s
  · exact Or.inl ⟨decide_eq_true h, decide_eq_true (Or.inl h)⟩
  · refine Or.inr ⟨decide_eq_false h, ?_⟩
    by_cases a : s.size < 1
    · exact Or.inl ⟨a, decide_eq_false fun g => g.elim h (fun x => by omega)⟩
    · by_cases b : 7 < s.size
      · exact Or.inr (Or.inl ⟨by omega, b, decide_eq_false fun g => g.elim h (fun x => by omega)⟩)
      · refine Or.inr (Or.inr ⟨by omega, by omega, decide_eq_decide.2 ⟨fun g => g.elim (fun x => absurd x h) (fun x => x.2.2), fun g => Or.inr ⟨by omega, by omega, g⟩⟩⟩)
set_option maxRecDepth 100000 in
set_option maxHeartbeats 4000000 in
theorem isName_any (s : ByteArray) (w : World) (hE : ES w) (hs : s.size ≤ maxLen) :
    Calls Tryz.prog 54 #[.string s] w fun e w' => e = .returned (.bool (nameB s)) ∧ Below w.heap.size w w' := by
  have C1 := Lib.hid (isNumb_any s w hE hs)
  have C2 := Lib.hid (fun w' => isWord_any s w' hs)
  have NC := name_cases s
  generalize nameB s = nb at *
  generalize numbB s = ub at *
  generalize wordB s.data.toList = wb at *
  clear hE
  unfold maxLen at hs
  rcases NC with ⟨rfl, rfl⟩ | ⟨rfl, ⟨h, rfl⟩ | ⟨h, g, rfl⟩ | ⟨h, g, rfl⟩⟩
  · go_enter Tryz.func54, Tryz.ntmps54
    go_wp2_with fail
    refine C1.out.mono ?_
    rintro e w1 ⟨rfl, hb⟩
    go_wp2_with fail
    go_ret
    exact ⟨rfl, hb⟩
  · have h' : (s.size : Int) < 1 := by omega
    go_enter Tryz.func54, Tryz.ntmps54
    go_wp2_with fail
    refine C1.out.mono ?_
    rintro e w1 ⟨rfl, hb⟩
    go_wp2_with fail
    go_ret
    exact ⟨rfl, hb⟩
  · have h' : (1 : Int) ≤ s.size := by omega
    have g' : (7 : Int) < s.size := by omega
    go_enter Tryz.func54, Tryz.ntmps54
    go_wp2_with fail
    refine C1.out.mono ?_
    rintro e w1 ⟨rfl, hb⟩
    go_wp2_with fail
    go_ret
    exact ⟨rfl, hb⟩
  · have h' : (1 : Int) ≤ s.size := by omega
    have g' : (s.size : Int) ≤ 7 := by omega
    go_enter Tryz.func54, Tryz.ntmps54
    go_wp2_with fail
    refine C1.out.mono ?_
    rintro e w1 ⟨rfl, hb⟩
    have B1 := Lib.hid hb
    clear hb
    go_wp2_with fail
    refine (C2.out _).mono ?_
    rintro e w2 ⟨rfl, hb⟩
    have B2 := Lib.hid (below_then B1.out hb)
    clear hb
    go_wp2_with fail
    go_ret
    exact ⟨rfl, B2.out⟩
set_option maxRecDepth 100000 in
set_option maxHeartbeats 4000000 in
theorem rname_any (s : ByteArray) (w : World) (hs : s.size ≤ maxLen) :
    Calls Tryz.prog 58 #[.string s] w fun e w' => e = .returned (.bool (nameB s)) ∧ w = w' := by
  have C1 := Lib.hid (fun w' => rnumb_any s w' hs)
  have C2 := Lib.hid (fun w' => rword_any s w' hs)
  have NC := name_cases s
  generalize nameB s = nb at *
  generalize numbB s = ub at *
  generalize wordB s.data.toList = wb at *
  unfold maxLen at hs
  rcases NC with ⟨rfl, rfl⟩ | ⟨rfl, ⟨h, rfl⟩ | ⟨h, g, rfl⟩ | ⟨h, g, rfl⟩⟩
  · go_enter Tryz.func58, Tryz.ntmps58
    go_wp2_with (refine (C1.out _).mono ?_; rintro e w1 ⟨rfl, rfl⟩)
    go_ret
    exact ⟨rfl, rfl⟩
  · have h' : (s.size : Int) < 1 := by omega
    go_enter Tryz.func58, Tryz.ntmps58
    go_wp2_with (refine (C1.out _).mono ?_; rintro e w1 ⟨rfl, rfl⟩)
    go_ret
    exact ⟨rfl, rfl⟩
  · have h' : (1 : Int) ≤ s.size := by omega
    have g' : (7 : Int) < s.size := by omega
    go_enter Tryz.func58, Tryz.ntmps58
    go_wp2_with (refine (C1.out _).mono ?_; rintro e w1 ⟨rfl, rfl⟩)
    go_ret
    exact ⟨rfl, rfl⟩
  · have h' : (1 : Int) ≤ s.size := by omega
    have g' : (s.size : Int) ≤ 7 := by omega
    go_enter Tryz.func58, Tryz.ntmps58
    go_wp2_with fail
    refine (C1.out _).mono ?_
    rintro e w1 ⟨rfl, rfl⟩
    go_wp2_with fail
    refine (C2.out _).mono ?_
    rintro e w2 ⟨rfl, rfl⟩
    go_wp2_with fail
    go_ret
    exact ⟨rfl, rfl⟩
end Ow
end Go.Proofs.YtgodhaphbgllhaaGreatDoor
/-
  The walks of Check of package obs and of the reference.
-/
namespace Go.Proofs.YtgodhaphbgllhaaGreatDoor
namespace Ow
open Go.RowKit Lw Go.Proofs.YtgodhaphbgllhaaGreatDoor.Ap Go.Proofs.YtgodhaphbgllhaaGreatDoor.Op Go.Proofs.YtgodhaphbgllhaaGreatDoor.Mp Go.Proofs.YtgodhaphbgllhaaGreatDoor.Mw

def TimePost (t : Int) (w : World) (e : Ending) (w' : World) : Prop := ∃ y m d h i s u c : Int, e = .returned (.tuple #[dateV y m d h i s u, .int .i64 c]) ∧ ((timeP t ∧ c = 0) ∨ (¬ timeP t ∧ c = 16)) ∧ Below w.heap.size w w'
theorem time_any (t : Int) (w : World) (h0 : -9223372036854775808 ≤ t) (h1 : t ≤ 9223372036854775807) : Calls Tryz.prog 53 #[.int .i64 t] w (TimePost t w) := by
  by_cases h : t < bgv (-10227) 1972 1 ∨ bgv 36525 2100 1 ≤ t
  · exact (toutc_out t w h0 h1 h).mono fun e w' ⟨he, hb⟩ => ⟨0, 0, 0, 0, 0, 0, 0, 16, he, Or.inr ⟨fun g => by unfold timeP at g; omega, rfl⟩, hb⟩
  · obtain ⟨n, y, m, z, k, hd⟩ := day_ex t (by omega) (by omega)
    exact (toutc_in t n y m z k w hd (by omega) (by omega)).mono fun e w' ⟨he, hb⟩ => ⟨_, _, _, _, _, _, _, _, he, Or.inl ⟨by unfold timeP; omega, rfl⟩, hb⟩
theorem rtime_any (t : Int) (w : World) (h0 : -9223372036854775808 ≤ t) (h1 : t ≤ 9223372036854775807) : Calls Tryz.prog 57 #[.int .i64 t] w (TimePost t w) := by
  by_cases h : t < bgv (-10227) 1972 1 ∨ bgv 36525 2100 1 ≤ t
  · exact (rtoutc_out t w h0 h1 h).mono fun e w' ⟨he, hb⟩ => ⟨0, 0, 0, 0, 0, 0, 0, 16, he, Or.inr ⟨fun g => by unfold timeP at g; omega, rfl⟩, hb⟩
  · obtain ⟨n, y, m, z, k, hd⟩ := day_ex t (by omega) (by omega)
    exact (rtoutc_in t n y m z k w hd (by omega) (by omega)).mono fun e w' ⟨he, hb⟩ => ⟨_, _, _, _, _, _, _, _, he, Or.inl ⟨by unfold timeP; omega, rfl⟩, hb⟩
/-- An observation in its box. -/
structure OX (w0 : World) (b : Nat) (o : Ob) (w : World) : Prop where
  below : Below w0.heap.size w0 w
  lt : b < w.heap.size
  row : w.rangeAt b 0 (obsC o)
theorem OX.call {w0 w w' : World} {b : Nat} {o : Ob} (h : OX w0 b o w) (hb : Below w.heap.size w w') : OX w0 b o w' := ⟨below_then h.below hb, Nat.lt_of_lt_of_le h.lt hb.size, rangeAt_below h.row hb h.lt⟩
theorem OX.new (w : World) (o : Ob) : OX w w.heap.size o (w.alloc (.cells (obsC o).toArray 23)) := ⟨(Below.refl _ _).alloc (Nat.le_refl _) _, by simp, rangeAt_new w _ _⟩
/-- The numbers of an observation are in their ranges. -/
def rngP (ra dec sg : Int) : Prop := 0 ≤ ra ∧ ra < 1296000000000 ∧ -324000000000 ≤ dec ∧ dec ≤ 324000000000 ∧ 1 ≤ sg ∧ sg ≤ 10000000000
instance (ra dec sg : Int) : Decidable (rngP ra dec sg) := by unfold rngP; infer_instance
theorem rng_cases (ra dec sg : Int) : rngP ra dec sg ∨ (¬ rngP ra dec sg ∧ (ra < 0 ∨ (0 ≤ ra ∧ 1296000000000 ≤ ra) ∨ (0 ≤ ra ∧ ra < 1296000000000 ∧ dec < -324000000000) ∨ (0 ≤ ra ∧ ra < 1296000000000 ∧ -324000000000 ≤ dec ∧ 324000000000 < dec) ∨ (0 ≤ ra ∧ ra < 1296000000000 ∧ -324000000000 ≤ dec ∧ dec ≤ 324000000000 ∧ sg < 1) ∨ (0 ≤ ra ∧ ra < 1296000000000 ∧ -324000000000 ≤ dec ∧ dec ≤ 324000000000 ∧ 1 ≤ sg ∧ 10000000000 < sg))) := by
  unfold rngP; omega
theorem mag_cases (m b : Int) : (m = 9999 ∧ b = 32 ∧ magP m b) ∨ (m ≠ 9999 ∧ b = 32 ∧ m < -500 ∧ ¬ magP m b) ∨ (m ≠ 9999 ∧ b = 32 ∧ -500 ≤ m ∧ 3000 < m ∧ ¬ magP m b) ∨ (m ≠ 9999 ∧ b = 32 ∧ -500 ≤ m ∧ m ≤ 3000 ∧ magP m b) ∨
    (b ≠ 32 ∧ m < -500 ∧ ¬ magP m b) ∨ (b ≠ 32 ∧ -500 ≤ m ∧ 3000 < m ∧ m ≠ 9999 ∧ ¬ magP m b) ∨ (b ≠ 32 ∧ m = 9999 ∧ ¬ magP m b) ∨ (b ≠ 32 ∧ -500 ≤ m ∧ m ≤ 3000 ∧ m ≠ 9999 ∧ (magP m b ↔ ltP b)) := by
  by_cases hb : b = 32
  · by_cases h9 : m = 9999
    · exact Or.inl ⟨h9, hb, Or.inl ⟨h9, hb⟩⟩
    · by_cases h1 : m < -500
      · exact Or.inr (Or.inl ⟨h9, hb, h1, fun g => by unfold magP at g; omega⟩)
      · by_cases h2 : 3000 < m
        · exact Or.inr (Or.inr (Or.inl ⟨h9, hb, by omega, h2, fun g => by unfold magP at g; omega⟩))
        · exact Or.inr (Or.inr (Or.inr (Or.inl ⟨h9, hb, by omega, by omega, Or.inr ⟨by omega, by omega, Or.inl hb⟩⟩)))
  · refine Or.inr (Or.inr (Or.inr (Or.inr ?_)))
    by_cases h1 : m < -500
    · exact Or.inl ⟨hb, h1, fun g => by unfold magP at g; omega⟩
    · by_cases h9 : m = 9999
      · exact Or.inr (Or.inr (Or.inl ⟨hb, h9, fun g => by unfold magP at g; omega⟩))
      · by_cases h2 : 3000 < m
        · exact Or.inr (Or.inl ⟨hb, by omega, h2, h9, fun g => by unfold magP at g; omega⟩)
        · refine Or.inr (Or.inr (Or.inr ⟨hb, by omega, by omega, h9, fun g => ?_, fun g => Or.inr ⟨by omega, by omega, Or.inr g⟩⟩))
          rcases g with ⟨_, g⟩ | ⟨_, _, g | g⟩
          · exact absurd g hb
          · exact absurd g hb
          · exact g
/-- What is asked of an observation, but for its magnitude. -/
def preB (o : Ob) : Bool := decide (timeP o.t ∧ nameP o.name ∧ o.site.size = 3 ∧ wordP o.site.data.toList ∧ rngP o.ra o.dec o.sg)
/-- The first four of these. -/
def preA (o : Ob) : Bool := decide (timeP o.t ∧ nameP o.name ∧ o.site.size = 3 ∧ wordP o.site.data.toList)
theorem preB_of (o : Ob) : preB o = (preA o && decide (rngP o.ra o.dec o.sg)) := by
  unfold preB preA
  rw [← Bool.decide_and]
  exact decide_eq_decide.2 ⟨fun ⟨a, b, c, d, e⟩ => ⟨⟨a, b, c, d⟩, e⟩, fun ⟨⟨a, b, c, d⟩, e⟩ => ⟨a, b, c, d, e⟩⟩
theorem okO_pre (o : Ob) : okO o ↔ preB o = true ∧ magP o.mag o.band := by
  unfold okO preB rngP
  rw [decide_eq_true_eq]
  constructor
  · rintro ⟨a, b, c, d, e, f, g, h, i, j, k⟩; exact ⟨⟨a, b, c, d, e, f, g, h, i, j⟩, k⟩
  · rintro ⟨⟨a, b, c, d, e, f, g, h, i, j⟩, k⟩; exact ⟨a, b, c, d, e, f, g, h, i, j, k⟩
theorem check_ok {o : Ob} (h : preB o = true) (g : magP o.mag o.band) : checkC o = 0 := if_pos ((okO_pre o).2 ⟨h, g⟩)
theorem check_m {o : Ob} (g : ¬ magP o.mag o.band) : checkC o = 8 := if_neg fun x => g ((okO_pre o).1 x).2
theorem check_p {o : Ob} (h : preB o = false) : checkC o = 8 := if_neg fun x => by rw [((okO_pre o).1 x).1] at h; cases h
set_option maxRecDepth 100000 in
set_option maxHeartbeats 16000000 in
theorem check_any (o : Ob) (w : World) (hE : ES w) (h0 : -9223372036854775808 ≤ o.t) (h1 : o.t ≤ 9223372036854775807) (b0 : 0 ≤ o.band) (b1 : o.band ≤ 255) (n1 : o.name.size ≤ maxLen) (n2 : o.site.size ≤ maxLen) :
    Calls Tryz.prog 17 #[obsV o] w fun e w' => e = .returned (.int .i64 (checkC o)) ∧ Below w.heap.size w w' := by
  have K1 := Lib.hid (fun (a : preB o = true) (b : magP o.mag o.band) => check_ok a b)
  have K2 := Lib.hid (fun (b : ¬ magP o.mag o.band) => check_m b)
  have K3 := Lib.hid (fun (b : preB o = false) => check_p b)
  have PD := Lib.hid (show preA o = decide (timeP o.t ∧ nameP o.name ∧ o.site.size = 3 ∧ wordP o.site.data.toList) from rfl)
  have PB := Lib.hid (preB_of o)
  have X0 := OX.new w o
  obtain ⟨nm, st, tt, ra, dec, sg, mg, bd⟩ := o
  simp only at h0 h1 b0 b1 n1 n2 K1 K2 PD PB
  generalize checkC ⟨nm, st, tt, ra, dec, sg, mg, bd⟩ = cc at *
  generalize preB ⟨nm, st, tt, ra, dec, sg, mg, bd⟩ = pb at *
  generalize preA ⟨nm, st, tt, ra, dec, sg, mg, bd⟩ = pa at *
  have C1 := Lib.hid (fun w' => time_any tt w' h0 h1)
  have C2 := Lib.hid (fun w' (h : ES w') => isName_any nm w' h n1)
  have C3 := Lib.hid (fun w' => isWord_any st w' n2)
  have HE := Lib.hid (hE.below X0.below)
  have q0 := X0.row 0 _ rfl
  have q1 := X0.row 1 _ rfl
  have q2 := X0.row 2 _ rfl
  have q3 := X0.row 3 _ rfl
  have q4 := X0.row 4 _ rfl
  have q5 := X0.row 5 _ rfl
  have q6 := X0.row 6 _ rfl
  have q7 := X0.row 7 _ rfl
  simp only [Nat.zero_add] at q0 q1 q2 q3 q4 q5 q6 q7
  have XX := Lib.hid X0
  have NB := Lib.hid (show nameB nm = true ↔ nameP nm from decide_eq_true_iff)
  have WB := Lib.hid (show wordB st.data.toList = true ↔ wordP st.data.toList from decide_eq_true_iff)
  clear hE X0 h0 h1 n1
  unfold maxLen at n2
  generalize nameB nm = nb at *
  generalize wordB st.data.toList = wb at *
  go_enter Tryz.func17, Tryz.ntmps17
  go_wp2_with fail
  refine (C1.out _).mono ?_
  rintro e w1 ⟨y, m, d, h, i, s, u, c, rfl, hc, hb⟩
  have bb := below_then hb ((Below.refl _ w1).alloc (Nat.le_refl _) (.cells (dateC y m d h i s u).toArray 79))
  have X1 := XX.out.call bb
  have lt1 : w.heap.size < w1.heap.size := by have := hb.size; simp at this; omega
  have HE1 := Lib.hid (HE.out.below bb)
  clear q0 q1 q2 q3 q4 q5 q6 q7
  have q0 := (XX.out.call hb).row 0 _ rfl
  have q1 := (XX.out.call hb).row 1 _ rfl
  have q2 := (XX.out.call hb).row 2 _ rfl
  have q3 := (XX.out.call hb).row 3 _ rfl
  have q4 := (XX.out.call hb).row 4 _ rfl
  have q5 := (XX.out.call hb).row 5 _ rfl
  have q6 := (XX.out.call hb).row 6 _ rfl
  have q7 := (XX.out.call hb).row 7 _ rfl
  simp only [Nat.zero_add] at q0 q1 q2 q3 q4 q5 q6 q7
  have XX1 := Lib.hid X1
  have HC := Lib.hid hc
  clear hb bb X1 XX HE C1 hc
  go_upto_region 2 with (refine wpList_store_new rfl _ (.tmp 3) (.tmp 12) rfl _ _ rfl rfl info7 rfl ?_ ?_; simp [Value.oneCell'])
  go_cut [5] (fun q wx => q = .bool pa ∧ OX w w.heap.size ⟨nm, st, tt, ra, dec, sg, mg, bd⟩ wx)
  case first =>
    rcases HC.out with ⟨ht, rfl⟩ | ⟨ht, rfl⟩
    · have HT := Lib.hid ht
      clear ht HC
      go_wp2_with (refine wpList_store_new rfl _ (.tmp 3) (.tmp 12) rfl _ _ rfl rfl info7 rfl ?_ ?_; simp [Value.oneCell'])
      refine (C2.out _ HE1.out).mono ?_
      rintro e w2 ⟨rfl, hb⟩
      have X2 := XX1.out.call hb
      clear q0 q1 q2 q3 q4 q5 q6 q7
      have q0 := X2.row 0 _ rfl
      have q1 := X2.row 1 _ rfl
      have q2 := X2.row 2 _ rfl
      have q3 := X2.row 3 _ rfl
      have q4 := X2.row 4 _ rfl
      have q5 := X2.row 5 _ rfl
      have q6 := X2.row 6 _ rfl
      have q7 := X2.row 7 _ rfl
      simp only [Nat.zero_add] at q0 q1 q2 q3 q4 q5 q6 q7
      have XX2 := Lib.hid X2
      clear hb X2 XX1 HE1 C2 lt1
      cases nb
      · have P := Lib.hid (PD.out.trans (decide_eq_false fun g => by have := NB.out.2 g.2.1; cases this))
        clear PD
        go_wp2_with fail
        go_meet
        exact ⟨by rw [P.out], XX2.out⟩
      · by_cases h3 : st.size = 3
        · have k3 : (st.size : Int) = 3 := by omega
          go_wp2_with fail
          refine (C3.out _).mono ?_
          rintro e w3 ⟨rfl, hb⟩
          have X3 := XX2.out.call hb
          clear q0 q1 q2 q3 q4 q5 q6 q7
          have q0 := X3.row 0 _ rfl
          have q1 := X3.row 1 _ rfl
          have q2 := X3.row 2 _ rfl
          have q3 := X3.row 3 _ rfl
          have q4 := X3.row 4 _ rfl
          have q5 := X3.row 5 _ rfl
          have q6 := X3.row 6 _ rfl
          have q7 := X3.row 7 _ rfl
          simp only [Nat.zero_add] at q0 q1 q2 q3 q4 q5 q6 q7
          have XX3 := Lib.hid X3
          clear hb X3 XX2 C3
          cases wb
          · have P := Lib.hid (PD.out.trans (decide_eq_false fun g => by have := WB.out.2 g.2.2.2; cases this))
            clear PD
            go_wp2_with fail
            go_meet
            exact ⟨by rw [P.out], XX3.out⟩
          · have P := Lib.hid (PD.out.trans (decide_eq_true ⟨HT.out, NB.out.1 (by first | rfl | trivial), h3, WB.out.1 (by first | rfl | trivial)⟩))
            clear PD h3 k3
            go_wp2_with fail
            go_meet
            exact ⟨by rw [P.out], XX3.out⟩
        · have P := Lib.hid (PD.out.trans (decide_eq_false fun g => h3 g.2.2.1))
          have k3 : ¬ (st.size : Int) = 3 := by omega
          clear PD
          go_wp2_with fail
          go_meet
          exact ⟨by rw [P.out], XX2.out⟩
    · have P := Lib.hid (PD.out.trans (decide_eq_false fun g => ht g.1))
      clear PD HC ht
      go_wp2_with (refine wpList_store_new rfl _ (.tmp 3) (.tmp 12) rfl _ _ rfl rfl info7 rfl ?_ ?_; simp [Value.oneCell'])
      go_meet
      exact ⟨by rw [P.out], XX1.out⟩
  case rest =>
    obtain ⟨rfl, X4⟩ := hcut
    clear q0 q1 q2 q3 q4 q5 q6 q7
    have q0 := X4.row 0 _ rfl
    have q1 := X4.row 1 _ rfl
    have q2 := X4.row 2 _ rfl
    have q3 := X4.row 3 _ rfl
    have q4 := X4.row 4 _ rfl
    have q5 := X4.row 5 _ rfl
    have q6 := X4.row 6 _ rfl
    have q7 := X4.row 7 _ rfl
    simp only [Nat.zero_add] at q0 q1 q2 q3 q4 q5 q6 q7
    have XX4 := Lib.hid X4
    clear X4 XX1 HE1 HC PD C2 C3 NB WB lt1
    go_upto_region 3 with (fail)
    go_cut [5] (fun q wx => q = .bool pb ∧ OX w w.heap.size ⟨nm, st, tt, ra, dec, sg, mg, bd⟩ wx)
    case first =>
      cases pa
      · have P2 := Lib.hid PB.out
        clear PB
        go_wp2_with fail
        go_meet
        exact ⟨by rw [P2.out]; rfl, XX4.out⟩
      · rcases rng_cases ra dec sg with g | ⟨g, g'⟩
        · have P2 := Lib.hid (PB.out.trans (by rw [decide_eq_true g]; rfl : _ = true))
          obtain ⟨r1, r2, r3, r4, r5, r6⟩ := g
          clear PB
          go_wp2_with fail
          go_meet
          exact ⟨by rw [P2.out], XX4.out⟩
        · have P2 := Lib.hid (PB.out.trans (by rw [decide_eq_false g]; rfl : _ = false))
          clear PB g
          rcases g' with r1 | ⟨r1, r2⟩ | ⟨r1, r2, r3⟩ | ⟨r1, r2, r3, r4⟩ | ⟨r1, r2, r3, r4, r5⟩ | ⟨r1, r2, r3, r4, r5, r6⟩
          all_goals
            go_wp2_with fail
            go_meet
            first
              | exact ⟨by rw [P2.out]; congr 1; exact decide_eq_false (by omega), XX4.out⟩
              | exact ⟨by rw [P2.out], XX4.out⟩
    case rest =>
      obtain ⟨rfl, X4⟩ := hcut
      clear q0 q1 q2 q3 q4 q5 q6 q7
      have q0 := X4.row 0 _ rfl
      have q1 := X4.row 1 _ rfl
      have q2 := X4.row 2 _ rfl
      have q3 := X4.row 3 _ rfl
      have q4 := X4.row 4 _ rfl
      have q5 := X4.row 5 _ rfl
      have q6 := X4.row 6 _ rfl
      have q7 := X4.row 7 _ rfl
      simp only [Nat.zero_add] at q0 q1 q2 q3 q4 q5 q6 q7
      clear XX4
      have XX4 := Lib.hid X4
      clear X4 PB
      cases pb
      · have E := Lib.hid (K3.out rfl)
        clear K1 K2 K3
        rcases (show bd = 32 ∨ bd ≠ 32 by omega) with hb | hb <;> rcases (show mg = 9999 ∨ mg ≠ 9999 by omega) with hm | hm
        all_goals
          go_wp2_with fail
          go_ret
          exact ⟨by rw [E.out]; rfl, XX4.out.below⟩
      · have L1 := Lib.hid (fun w' => isLetter_any bd w')
        rcases mag_cases mg bd with ⟨rfl, rfl, g⟩ | ⟨h9, rfl, h1, g⟩ | ⟨h9, rfl, h1, h2, g⟩ | ⟨h9, rfl, h1, h2, g⟩ | ⟨hb, h1, g⟩ | ⟨hb, h1, h2, h9, g⟩ | ⟨hb, rfl, g⟩ | ⟨hb, h1, h2, h9, g⟩
        · have E := Lib.hid (K1.out rfl g)
          clear K1 K2 K3 g
          go_wp2_with fail
          go_ret
          exact ⟨by rw [E.out]; rfl, XX4.out.below⟩
        · have E := Lib.hid (K2.out g)
          clear K1 K2 K3 g
          go_wp2_with fail
          go_ret
          exact ⟨by rw [E.out]; rfl, XX4.out.below⟩
        · have E := Lib.hid (K2.out g)
          clear K1 K2 K3 g
          go_wp2_with fail
          go_ret
          exact ⟨by rw [E.out]; rfl, XX4.out.below⟩
        · have E := Lib.hid (K1.out rfl g)
          clear K1 K2 K3 g
          go_wp2_with fail
          go_ret
          exact ⟨by rw [E.out]; rfl, XX4.out.below⟩
        · have E := Lib.hid (K2.out g)
          clear K1 K2 K3 g
          have h9 : mg ≠ 9999 := by omega
          have hb2 : (bd == 32) = false := beq_eq_false_iff_ne.2 hb
          have hm2 : (mg == 9999) = false := beq_eq_false_iff_ne.2 h9
          go_wp2_with fail
          go_ret
          exact ⟨by rw [E.out]; rfl, XX4.out.below⟩
        · have E := Lib.hid (K2.out g)
          clear K1 K2 K3 g
          have hb2 : (bd == 32) = false := beq_eq_false_iff_ne.2 hb
          have hm2 : (mg == 9999) = false := beq_eq_false_iff_ne.2 h9
          go_wp2_with fail
          go_ret
          exact ⟨by rw [E.out]; rfl, XX4.out.below⟩
        · have E := Lib.hid (K2.out g)
          clear K1 K2 K3 g
          have hb2 : (bd == 32) = false := beq_eq_false_iff_ne.2 hb
          go_wp2_with fail
          go_ret
          exact ⟨by rw [E.out]; rfl, XX4.out.below⟩
        · have hb2 : (bd == 32) = false := beq_eq_false_iff_ne.2 hb
          have hm2 : (mg == 9999) = false := beq_eq_false_iff_ne.2 h9
          rcases lt_cases bd with ⟨hl, el⟩ | ⟨hl, el⟩
          · have E := Lib.hid (K1.out rfl (g.2 hl))
            rw [el] at L1
            clear K1 K2 K3 g hl el
            go_wp2_with (refine (L1.out _).mono ?_; rintro e w5 ⟨rfl, rfl⟩)
            go_ret
            exact ⟨by rw [E.out]; rfl, XX4.out.below⟩
          · have E := Lib.hid (K2.out (fun x => hl (g.1 x)))
            rw [el] at L1
            clear K1 K2 K3 g hl el
            go_wp2_with (refine (L1.out _).mono ?_; rintro e w5 ⟨rfl, rfl⟩)
            go_ret
            exact ⟨by rw [E.out]; rfl, XX4.out.below⟩
end Ow
end Go.Proofs.YtgodhaphbgllhaaGreatDoor
/-
  The library contracts once more, by another name.
-/
/-
  Texts of numbers: pad, glue and clock of package angle.
-/
namespace Go.Proofs.YtgodhaphbgllhaaGreatDoor
namespace Gt
open Go.RowKit Lw Gp

theorem gPow : Tryz.prog.globalNamed "internal/strconv.uint64pow10" = some 5 := by kernel_rfl
/-- The library's table of powers of ten holds what its initialiser lays. -/
def Tab (w : World) : Prop := Lib.TabIs Tryz.prog w "internal/strconv.uint64pow10" .u64 Lib.pow10Tab
theorem Tab.below {w w' : World} (h : Tab w) (hb : Below w.heap.size w w') : Tab w' := Joins.tab_stays gPow h hb (Nat.le_refl _)

/-- A number with at least so many digits. -/
def padL (n : Int) (d : Nat) : List UInt8 := Lib.repeatL [48] (d - (Lib.itoa n).length) ++ Lib.itoa n
theorem below_grow (w : World) (k : Nat) (os : Array Obj) : Below w.heap.size w (Go.Sort.grow (w.drewN k) os) :=
  ⟨rfl, rfl, rfl, by simp [Go.Sort.grow, World.drewN], fun j hj => by
    show (w.heap ++ os)[j]? = w.heap[j]?
    rw [Array.getElem?_append_left hj]⟩
theorem rep_len (k : Nat) : (Lib.repeatL [48] k).length = k := by
  induction k with
  | zero => rfl
  | succ k ih => simp_all [Lib.repeatL]
theorem str_app (a b : List UInt8) : ((⟨a.toArray⟩ : ByteArray) ++ ⟨b.toArray⟩) = ⟨(a ++ b).toArray⟩ := by
  apply ByteArray.ext
  simp [ByteArray.data_append]

set_option maxRecDepth 100000 in
theorem pad_any (n : Int) (d : Nat) (w : World) (hT : Tab w) (h0 : 0 ≤ n) (h1 : n ≤ 1000000000000000000) (hd : d ≤ 20) :
    Calls Tryz.prog 126 #[.int .i64 n, .int .i64 d] w fun e w' => e = .returned (.string ⟨(padL n d).toArray⟩) ∧ Below w.heap.size w w' := by
  have hl := Lib.itoa_length_le n (by omega) (by omega)
  have F := Lib.hid (Tryz.strconv_FormatInt_10 n (by omega) (by omega) w hT)
  have hp : padL n d = Lib.repeatL [48] (d - (Lib.itoa n).length) ++ Lib.itoa n := rfl
  have hp := Lib.hid hp
  have sz : (⟨(Lib.itoa n).toArray⟩ : ByteArray).size = (Lib.itoa n).length := by simp [ByteArray.size]
  generalize Lib.itoa n = L at *
  go_enter Tryz.func126, Tryz.ntmps126
  go_wp2_with fail
  go_at_call 122
  refine F.out.mono ?_
  rintro e w1 ⟨rfl, k, os, hw⟩
  have hB1 : Below w.heap.size w w1 := by rw [hw]; exact below_grow w k os
  clear F hw hT
  have em : max (0 : Int) (↑d - ↑L.length) = ((d - L.length : Nat) : Int) := by omega
  have R := Lib.hid (Tryz.strings_Repeat ⟨#[48]⟩ (d - L.length) w1 (by omega) (by show 1 * _ ≤ _; omega))
  have rl := rep_len (d - L.length)
  have ls : (⟨#[48]⟩ : ByteArray).data.toList = [48] := rfl
  rw [ls] at R
  go_wp2_with fail
  go_at_call 33
  refine R.out.mono ?_
  rintro e w2 ⟨rfl, hB2⟩
  have hB := below_then hB1 hB2
  have sa := str_app (Lib.repeatL [48] (d - L.length)) L
  generalize Lib.repeatL [48] (d - L.length) = Q at *
  clear R em ls hB1 hB2
  go_wp2_with fail
  go_ret
  exact ⟨by rw [hp.out]; rfl, hB⟩
theorem pad_len (n : Int) (d : Nat) (h0 : 0 ≤ n) (h1 : n ≤ 1000000000000000000) (hd : d ≤ 20) : (padL n d).length ≤ 41 := by
  have := Lib.itoa_length_le n (by omega) (by omega)
  have := rep_len (d - (Lib.itoa n).length)
  unfold padL
  rw [List.length_append]
  omega
/-- Numbers of two digits, put together. -/
def glueL (x y z : Int) : List UInt8 := padL x 2 ++ [32] ++ padL y 2 ++ [32] ++ padL z 2
abbrev i3 (x y z : Int) : List Value := [.int .i64 x, .int .i64 y, .int .i64 z]
abbrev s3 (a b c : List UInt8) : List Value := [.string ⟨a.toArray⟩, .string ⟨b.toArray⟩, .string ⟨c.toArray⟩]

theorem range_set {w : World} {b : Nat} {cs : List Value} (h : w.rangeAt b 0 cs) (j : Nat) (hj : j < cs.length) (v : Value) : (w.setCell ⟨b, j, none⟩ v).rangeAt b 0 (cs.set j v) := fun i x hx => by
  have hu : w.cell? ⟨b, j, none⟩ = some cs[j] := by have := h j cs[j] (List.getElem?_eq_getElem hj); simpa using this
  have hi : i < cs.length := by have := (List.getElem?_eq_some_iff.1 hx).1; simpa using this
  rw [Nat.zero_add]
  by_cases e : j = i
  · subst e
    rw [World.cell?_setCell_same _ _ _ hu]
    rw [List.getElem?_set_self hj] at hx
    exact hx
  · rw [World.cell?_setCell_other _ _ _ _ (by intro g; injection g with _ g2 _; exact e g2)]
    rw [List.getElem?_set_ne e] at hx
    have := h i x hx
    rwa [Nat.zero_add] at this
theorem range_set_other {w : World} {b b' : Nat} {cs : List Value} (h : w.rangeAt b 0 cs) (j : Nat) (hne : b ≠ b') (v : Value) : (w.setCell ⟨b', j, none⟩ v).rangeAt b 0 cs := fun i x hx => by
  rw [World.cell?_setCell_other _ _ _ _ (by intro g; injection g with g1 _ _; exact hne g1.symm)]
  exact h i x hx
theorem there_set {w : World} {b n : Nat} (h : w.there b 0 n) (a : Addr) (v : Value) : (w.setCell a v).there b 0 n := fun j hj => by
  refine ⟨?_, by rw [World.frozen?_setCell]; exact (h j hj).2⟩
  obtain ⟨u, hu⟩ := Option.isSome_iff_exists.1 (h j hj).1
  obtain ⟨v', hv'⟩ := cell?_setCell_some (w := w) (p := a) (x := v) (q := ⟨b, 0 + j, none⟩) (v := u) hu
  rw [hv']; rfl
/-- What the loop keeps: the numbers, the texts so far. -/
structure GK (w : World) (b : Nat) (ns ts : List Value) (wr : World) : Prop where
  nums : wr.rangeAt b 0 ns
  texts : wr.rangeAt w.heap.size 0 ts
  there : wr.there w.heap.size 0 3
  lt : w.heap.size < wr.heap.size
  below : Below w.heap.size w wr
theorem GK.start {w : World} {b : Nat} {ns : List Value} (hb : b < w.heap.size) (h : w.rangeAt b 0 ns) (C : Array Value) (hC : C = (s3 [] [] []).toArray) (t : TypeId) : GK w b ns (s3 [] [] []) (w.alloc (.cells C t)) := by
  subst hC
  exact ⟨rangeAt_below h ((Below.refl _ _).alloc (Nat.le_refl _) _) hb, rangeAt_new w _ t, there_new w _ t 3 (by simp), by simp, (Below.refl _ _).alloc (Nat.le_refl _) _⟩
theorem GK.call {w : World} {b : Nat} {ns ts : List Value} {a c : World} (hb : b < w.heap.size) (h : GK w b ns ts a) (hc : Below a.heap.size a c) : GK w b ns ts c :=
  ⟨rangeAt_below h.nums hc (Nat.lt_trans hb h.lt), rangeAt_below h.texts hc h.lt, there_below h.there hc h.lt, Nat.lt_of_lt_of_le h.lt hc.size, h.below.trans (hc.mono (Nat.le_of_lt h.lt))⟩
theorem GK.set {w : World} {b : Nat} {ns ts ts' : List Value} {a : World} (hb : b < w.heap.size) (h : GK w b ns ts a) (j : Nat) (v : Value) (hj : j < ts.length) (he : ts.set j v = ts') : GK w b ns ts' (a.setCell ⟨w.heap.size, j, none⟩ v) :=
  ⟨range_set_other h.nums j (Nat.ne_of_lt hb) v, he ▸ range_set h.texts j hj v, there_set h.there _ _, by simpa using h.lt, h.below.setCell (Nat.le_refl _) v⟩
theorem fr_of {w : World} {b : Nat} {ns ts : List Value} {a : World} (h : GK w b ns ts a) (j : Nat) (hj : j < 3) : a.frozen? ⟨w.heap.size, j, none⟩ = false := by
  have := (h.there j hj).2
  rwa [Nat.zero_add] at this
theorem cell_of {w : World} {b : Nat} {ns ts : List Value} {a : World} (h : GK w b ns ts a) (j : Nat) (v : Value) (hv : ts[j]? = some v) : a.cell? ⟨w.heap.size, j, none⟩ = some v := by
  have := h.texts j v hv
  rwa [Nat.zero_add] at this
theorem num_of {w : World} {b : Nat} {ns ts : List Value} {a : World} (h : GK w b ns ts a) (j : Nat) (v : Value) (hv : ns[j]? = some v) : a.cell? ⟨b, j, none⟩ = some v := by
  have := h.nums j v hv
  rwa [Nat.zero_add] at this
set_option maxRecDepth 100000 in
set_option maxHeartbeats 4000000 in
theorem glue_any (x y z : Int) (b : Nat) (w : World) (hT : Tab w) (hb : b < w.heap.size) (hc : w.rangeAt b 0 (i3 x y z))
    (x0 : 0 ≤ x) (x1 : x ≤ 1000000000000) (y0 : 0 ≤ y) (y1 : y ≤ 1000000000000) (z0 : 0 ≤ z) (z1 : z ≤ 1000000000000) :
    Calls Tryz.prog 125 #[.slice (some ⟨b, 0, none⟩) 3 3] w fun e w' => e = .returned (.string ⟨(glueL x y z).toArray⟩) ∧ Below w.heap.size w w' := by
  have HT := Lib.hid hT
  have HC := Lib.hid hc
  clear hT hc
  have hmk : (Instr.makeSlice 184 (.int .i64 3) (.int .i64 3)).run Tryz.prog w = .ok (.slice (some ⟨w.heap.size, 0, none⟩) 3 3) (w.alloc (.cells #[.string ⟨#[]⟩, .string ⟨#[]⟩, .string ⟨#[]⟩] 9)) :=
    by
    have h := run_make_row' (P := Tryz.prog) 184 9 (.string ⟨#[]⟩) 16 Tryz.underlying184 (by kernel_rfl) rfl .i64 .i64 3 (by omega) (by omega) w
    rw [show madeCells #[Value.string ⟨#[]⟩] 3 = #[.string ⟨#[]⟩, .string ⟨#[]⟩, .string ⟨#[]⟩] by kernel_rfl] at h
    exact h
  have G0 := Lib.hid (GK.start hb HC.out #[.string ⟨#[]⟩, .string ⟨#[]⟩, .string ⟨#[]⟩] rfl 9)
  have P1 : ∀ w', Tab w' → Calls Tryz.prog 126 #[.int .i64 x, .int .i64 2] w' fun e w'' => e = .returned (.string ⟨(padL x 2).toArray⟩) ∧ Below w'.heap.size w' w'' := fun w' h => pad_any x 2 w' h x0 (by omega) (by omega)
  have P2 : ∀ w', Tab w' → Calls Tryz.prog 126 #[.int .i64 y, .int .i64 2] w' fun e w'' => e = .returned (.string ⟨(padL y 2).toArray⟩) ∧ Below w'.heap.size w' w'' := fun w' h => pad_any y 2 w' h y0 (by omega) (by omega)
  have P3 : ∀ w', Tab w' → Calls Tryz.prog 126 #[.int .i64 z, .int .i64 2] w' fun e w'' => e = .returned (.string ⟨(padL z 2).toArray⟩) ∧ Below w'.heap.size w' w'' := fun w' h => pad_any z 2 w' h z0 (by omega) (by omega)
  have JL := Lib.hid (show Lib.join [padL x 2, padL y 2, padL z 2] [32] = glueL x y z by simp [Lib.join, glueL])
  have lx := pad_len x 2 x0 (by omega) (by omega)
  have ly := pad_len y 2 y0 (by omega) (by omega)
  have lz := pad_len z 2 z0 (by omega) (by omega)
  generalize padL x 2 = a at *
  generalize padL y 2 = c at *
  generalize padL z 2 = d at *
  clear x0 x1 y0 y1 z0 z1
  go_enter Tryz.func125, Tryz.ntmps125
  go_wp2_with fail
  go_loopw [11] (fun i wr => ∃ k : Nat, k ≤ 3 ∧ i = .int .i64 k ∧ GK w b (i3 x y z) (s3 (if 0 < k then a else []) (if 1 < k then c else []) (if 2 < k then d else [])) wr) (fun i _ => 3 - (intOf i).toNat)
  case atStart => exact ⟨0, by omega, rfl, G0.out⟩
  case round =>
    clear G0 hmk
    obtain ⟨k, hk, rfl, G⟩ := hrel
    have hT := Lib.hid (HT.out.below G.below)
    rcases (show k = 0 ∨ k = 1 ∨ k = 2 ∨ k = 3 by omega) with rfl | rfl | rfl | rfl
    · have G1 : GK w b (i3 x y z) (s3 [] [] []) wr := G
      have n0 := num_of G1 0 _ rfl
      clear G
      go_wp2_with fail
      go_at_call 126
      refine (P1 _ hT.out).mono ?_
      rintro e w2 ⟨rfl, hb2⟩
      have G2 := GK.call hb G1 hb2
      have f0 := fr_of G2 0 (by omega)
      have c0 := cell_of G2 0 _ rfl
      have G3 := Lib.hid (GK.set hb G2 0 (.string ⟨a.toArray⟩) (by simp) (ts' := s3 a [] []) rfl)
      clear G1 n0 hb2 G2
      go_wp2_with fail
      go_roundw
      case rel => exact ⟨1, by omega, rfl, G3.out⟩
      case measure => simp [intOf]
    · have G1 : GK w b (i3 x y z) (s3 a [] []) wr := G
      have n0 := num_of G1 1 _ rfl
      clear G
      go_wp2_with fail
      go_at_call 126
      refine (P2 _ hT.out).mono ?_
      rintro e w2 ⟨rfl, hb2⟩
      have G2 := GK.call hb G1 hb2
      have f0 := fr_of G2 1 (by omega)
      have c0 := cell_of G2 1 _ rfl
      have G3 := Lib.hid (GK.set hb G2 1 (.string ⟨c.toArray⟩) (by simp) (ts' := s3 a c []) rfl)
      clear G1 n0 hb2 G2
      go_wp2_with fail
      go_roundw
      case rel => exact ⟨2, by omega, rfl, G3.out⟩
      case measure => simp [intOf]
    · have G1 : GK w b (i3 x y z) (s3 a c []) wr := G
      have n0 := num_of G1 2 _ rfl
      clear G
      go_wp2_with fail
      go_at_call 126
      refine (P3 _ hT.out).mono ?_
      rintro e w2 ⟨rfl, hb2⟩
      have G2 := GK.call hb G1 hb2
      have f0 := fr_of G2 2 (by omega)
      have c0 := cell_of G2 2 _ rfl
      have G3 := Lib.hid (GK.set hb G2 2 (.string ⟨d.toArray⟩) (by simp) (ts' := s3 a c d) rfl)
      clear G1 n0 hb2 G2
      go_wp2_with fail
      go_roundw
      case rel => exact ⟨3, by omega, rfl, G3.out⟩
      case measure => simp [intOf]
    · have G1 : GK w b (i3 x y z) (s3 a c d) wr := G
      clear G
      have em : ([⟨a.toArray⟩, ⟨c.toArray⟩, ⟨d.toArray⟩] : List ByteArray).map (·.data.toList) = [a, c, d] := by simp
      have el : (Lib.join [a, c, d] [32]).length ≤ 140737488355328 := by
        simp [Lib.join]
        omega
      have J : Hid (Calls Tryz.prog 177 #[.slice (some ⟨w.heap.size, 0, none⟩) 3 3, .string ⟨#[32]⟩] wr fun e w' => e = .returned (.string ⟨(glueL x y z).toArray⟩) ∧ Below wr.heap.size wr w') := by
        have h := Tryz.strings_Join w.heap.size 0 3 [⟨a.toArray⟩, ⟨c.toArray⟩, ⟨d.toArray⟩] ⟨#[32]⟩ wr (fun j t hj => by
          rw [Nat.zero_add]
          match j, hj with
          | 0, hj => obtain rfl := Option.some.inj hj; exact cell_of G1 0 _ rfl
          | 1, hj => obtain rfl := Option.some.inj hj; exact cell_of G1 1 _ rfl
          | 2, hj => obtain rfl := Option.some.inj hj; exact cell_of G1 2 _ rfl
          | k + 3, hj => simp at hj) G1.lt (by simp) (by simp) (by rw [em]; exact el)
        rw [em, show (⟨#[32]⟩ : ByteArray).data.toList = [32] from rfl, JL.out] at h
        exact Lib.hid h
      have hB := G1.below
      clear em el JL G1
      go_wp2_with fail
      go_at_call 177
      refine J.out.mono ?_
      rintro e w2 ⟨rfl, hb2⟩
      go_wp2_with fail
      go_ret
      exact ⟨rfl, below_then hB hb2⟩
end Gt
end Go.Proofs.YtgodhaphbgllhaaGreatDoor
/-
  Texts of parts of a second: clock of package angle.
-/
namespace Go.Proofs.YtgodhaphbgllhaaGreatDoor
namespace Gt
open Go.RowKit Lw Gp

/-- Hours, minutes, seconds and parts. -/
def clockL (n d : Nat) : List UInt8 :=
  glueL ((n / 10 ^ d / 3600 : Nat) : Int) ((n / 10 ^ d / 60 % 60 : Nat) : Int) ((n / 10 ^ d % 60 : Nat) : Int) ++ (if 0 < d then 46 :: padL ((n % 10 ^ d : Nat) : Int) d else [])

theorem glue_len (x y z : Int) (x0 : 0 ≤ x) (x1 : x ≤ 1000000000000) (y0 : 0 ≤ y) (y1 : y ≤ 1000000000000) (z0 : 0 ≤ z) (z1 : z ≤ 1000000000000) : (glueL x y z).length ≤ 130 := by
  have a := pad_len x 2 x0 (by omega) (by omega)
  have b := pad_len y 2 y0 (by omega) (by omega)
  have c := pad_len z 2 z0 (by omega) (by omega)
  unfold glueL
  simp only [List.length_append, List.length_cons, List.length_nil]
  omega
set_option maxRecDepth 100000 in
set_option maxHeartbeats 4000000 in
theorem clock_any (n d : Nat) (w : World) (hT : Tab w) (hn : n ≤ 1000000000000) (hd : d ≤ 18) :
    Calls Tryz.prog 84 #[.int .i64 n, .int .i64 d] w fun e w' => e = .returned (.string ⟨(clockL n d).toArray⟩) ∧ Below w.heap.size w w' := by
  have hp : 1 ≤ 10 ^ d := Nat.pow_pos (by omega)
  have hp2 : 10 ^ d ≤ 1000000000000000000 := Nat.pow_le_pow_right (n := 10) (by omega) hd
  have NT : ∀ w : World, Calls Tryz.prog 81 #[.int .i64 d] w fun e w' => e = .returned (.int .i64 ((10 ^ d : Nat) : Int)) ∧ w = w' := fun w => ten_any d w hd
  have K := Lib.hid (show clockL n d = glueL ((n / 10 ^ d / 3600 : Nat) : Int) ((n / 10 ^ d / 60 % 60 : Nat) : Int) ((n / 10 ^ d % 60 : Nat) : Int) ++ (if 0 < d then 46 :: padL ((n % 10 ^ d : Nat) : Int) d else []) from rfl)
  generalize 10 ^ d = p at *
  have m1 : n / p ≤ n := Nat.div_le_self _ _
  have m2 : n % p < p := Nat.mod_lt _ hp
  have m3 : n % p ≤ n := Nat.mod_le _ _
  have t1 : (n : Int).tdiv (p : Int) = ((n / p : Nat) : Int) := rfl
  have t2 : (n : Int).tmod (p : Int) = ((n % p : Nat) : Int) := rfl
  generalize n / p = s at *
  generalize n % p = r at *
  have q1 : s / 3600 ≤ s := Nat.div_le_self _ _
  have q2 : s / 60 % 60 < 60 := Nat.mod_lt _ (by omega)
  have q3 : s % 60 < 60 := Nat.mod_lt _ (by omega)
  have q4 : s / 60 ≤ s := Nat.div_le_self _ _
  have t3 : (s : Int).tdiv 3600 = ((s / 3600 : Nat) : Int) := rfl
  have t4 : (s : Int).tdiv 60 = ((s / 60 : Nat) : Int) := rfl
  have t5 : (s : Int).tmod 60 = ((s % 60 : Nat) : Int) := rfl
  have t6 : ((s / 60 : Nat) : Int).tmod 60 = ((s / 60 % 60 : Nat) : Int) := rfl
  generalize s / 60 % 60 = y at *
  generalize s / 3600 = x at *
  generalize s % 60 = z at *
  generalize s / 60 = v at *
  have GL := glue_len (x : Int) y z (by omega) (by omega) (by omega) (by omega) (by omega) (by omega)
  have hp0 : (p : Int) ≠ 0 := by omega
  have hT := Lib.hid hT
  have G := Lib.hid (glue_any x y z w.heap.size (w.alloc (.cells (i3 x y z).toArray 2)) (hT.out.below ((Below.refl _ _).alloc (Nat.le_refl _) _)) (by simp) (rangeAt_new w _ _) (by omega) (by omega) (by omega) (by omega) (by omega) (by omega))
  have hB0 : Below w.heap.size w (w.alloc (.cells (i3 x y z).toArray 2)) := (Below.refl _ _).alloc (Nat.le_refl _) _
  go_enter Tryz.func84, Tryz.ntmps84
  go_wp2_with (go_at_call 81; refine (NT _).mono ?_; rintro e w' ⟨rfl, rfl⟩)
  go_at_call 125
  refine G.out.mono ?_
  rintro e w1 ⟨rfl, hB1⟩
  have hB := below_then hB0 hB1
  have T1 := Lib.hid (hT.out.below hB)
  clear G hB0 hB1 hT
  generalize glueL (x : Int) y z = g at *
  by_cases h0 : 0 < d
  · have P := Lib.hid (pad_any r d w1 T1.out (by omega) (by omega) (by omega))
    have PL := pad_len r d (by omega) (by omega) (by omega)
    have m0 : (0 : Int) < d := by omega
    rw [if_pos h0] at K
    generalize padL (r : Int) d = q at *
    have sa := str_app [46] q
    have sb := str_app g (46 :: q)
    go_wp2_with fail
    go_at_call 126
    refine P.out.mono ?_
    rintro e w2 ⟨rfl, hB2⟩
    have hB' := below_then hB hB2
    clear P T1
    go_wp2_with fail
    go_ret
    exact ⟨by rw [K.out]; rfl, hB'⟩
  · have m0 : ¬ (0 : Int) < d := by omega
    rw [if_neg h0, List.append_nil] at K
    go_wp2_with fail
    go_ret
    exact ⟨by rw [K.out]; rfl, hB⟩
end Gt
end Go.Proofs.YtgodhaphbgllhaaGreatDoor
/-
  ParseRa of the reference.
-/
namespace Go.Proofs.YtgodhaphbgllhaaGreatDoor
namespace Gp
open Go.RowKit Lw

theorem drewN_below3 {w0 w : World} (h : Below w0.heap.size w0 w) (n : Nat) : Below w0.heap.size w0 (w.drewN n) := drewN_below2 h n
theorem new3 {w0 w1 : World} (hB : Below w0.heap.size w0 w1) (o : Obj) : Below w0.heap.size w0 (w1.alloc o) := hB.alloc hB.size o

set_option maxRecDepth 100000 in
set_option maxHeartbeats 4000000 in
theorem rra_any (s : ByteArray) (w : World) (hs : s.size ≤ maxLen) :
    Calls Tryz.prog 104 #[.string s] w fun e w' => ∃ v c : Int, e = .returned (.tuple #[.int .i64 v, .int .i64 c]) ∧ RaIs s v c ∧ Below w.heap.size w w' := by
  have P := Lib.hid (parts_any s w hs)
  clear hs
  go_enter Tryz.func104, Tryz.ntmps104
  go_wp2_with fail
  refine P.out.mono ?_
  rintro e w1 ⟨a, b, c, r, ok, rfl, J, hB⟩
  clear P
  rcases J with ⟨rfl, hv, rfl, rfl, rfl, rfl⟩ | ⟨rfl, hv⟩
  · obtain ⟨V, Q, T, eV, eQ, eT, v0, v1, t1, q0, q1, p0, p1, z, ⟨a0, a1⟩, ⟨b0, b1⟩, ⟨c0, c1⟩, A⟩ := valid_letters hv 15000000 (by omega) (by omega)
    have hv := Lib.hid hv
    have R : Hid (two s 0 ≤ 23 → RaIs s ((two s 0 * 3600 + two s 3 * 60 + two s 6) * 15000000 + V * Q) 0) := Lib.hid fun g => Or.inl ⟨hv.out, g, A.out.symm, rfl⟩
    have R' : Hid (¬ two s 0 ≤ 23 → RaIs s 0 12) := Lib.hid fun g => Or.inr ⟨fun h => g h.2, rfl, rfl⟩
    have N1 : ∀ w : World, Calls Tryz.prog 154 #[.string (restOf s)] w fun e w' => e = .returned (.int .i64 V) ∧ w = w' := fun w => by rw [← eV]; exact number_any _ w (by omega)
    have N2 : ∀ w : World, Calls Tryz.prog 134 #[.int .i64 (restOf s).size] w fun e w' => e = .returned (.int .i64 T) ∧ w = w' := fun w => by rw [← eT]; exact rten_any _ w (by omega)
    rw [eT] at eQ
    clear A hv eV eT z
    generalize two s 0 = a at *
    generalize two s 3 = b at *
    generalize two s 6 = c at *
    generalize restOf s = r at *
    go_wp2_with (first | (refine wpList_store_new rfl 68 (.tmp 4) (.tmp 11) rfl _ _ rfl rfl info42 rfl rfl ?_) | (go_at_call 154; refine (N1 _).mono ?_; rintro e w' ⟨rfl, rfl⟩) | (go_at_call 134; refine (N2 _).mono ?_; rintro e w' ⟨rfl, rfl⟩))
    all_goals
      go_ret2
      first
        | exact ⟨_, _, rfl, R.out (by assumption), new3 hB _⟩
        | exact ⟨_, _, rfl, R'.out (by assumption), new3 hB _⟩
  · go_wp2_with (first | (refine wpList_store_new rfl 68 (.tmp 4) (.tmp 11) rfl _ _ rfl rfl info42 rfl rfl ?_))
    go_ret2
    exact ⟨0, 12, rfl, Or.inr ⟨fun h => hv h.1, rfl, rfl⟩, new3 hB _⟩
theorem dec_letters {s : ByteArray} (h : validP s) : ∃ V Q T : Int,
    numV (restOf s).data.toList = V ∧ (1000000 : Int).tdiv (tenI (restOf s).size) = Q ∧ tenI (restOf s).size = T ∧ 0 ≤ V ∧ V ≤ 999999 ∧ 1 ≤ T ∧ 0 ≤ Q ∧ Q ≤ 15000000 ∧ 0 ≤ V * Q ∧ V * Q ≤ 14999985000000 ∧
    (restOf s).size ≤ 6 ∧ (0 ≤ two s 0 ∧ two s 0 ≤ 99) ∧ (0 ≤ two s 3 ∧ two s 3 ≤ 59) ∧ (0 ≤ two s 6 ∧ two s 6 ≤ 59) ∧
    Hid (angV s 1000000 = (two s 0 * 3600 + two s 3 * 60 + two s 6) * 1000000 + V * Q) := valid_letters h 1000000 (by omega) (by omega)
set_option maxRecDepth 100000 in
set_option maxHeartbeats 8000000 in
theorem rdec_any (s : ByteArray) (w : World) (hs : s.size ≤ maxLen) :
    Calls Tryz.prog 105 #[.string s] w fun e w' => ∃ v c : Int, e = .returned (.tuple #[.int .i64 v, .int .i64 c]) ∧ DecIs s v c ∧ Below w.heap.size w w' := by
  obtain ⟨t, ht⟩ : ∃ t, tailOf s = t := ⟨_, rfl⟩
  have P : Hid (∀ w : World, Calls Tryz.prog 153 #[.string (s.extract 1 s.size)] w (PartsPost t w)) := Lib.hid fun w => by
    rw [← ht]; exact parts_any (tailOf s) w (by unfold tailOf; simp; omega)
  have ht := Lib.hid ht
  clear hs
  go_enter Tryz.func105, Tryz.ntmps105
  by_cases i0 : 0 < s.size
  · have m0 : (0 : Int) < s.size := by omega
    have m1 : (1 : Int) ≤ s.size := by omega
    have n0 : ¬ (s.size : Int) = 0 := by omega
    have p0 := at_of s 0 i0
    have hne : ¬ s = ByteArray.empty := fun h => by rw [h] at i0; simp at i0
    by_cases g : ((s[0].toNat : Nat) : Int) = 43 ∨ ((s[0].toNat : Nat) : Int) = 45
    · have sg := Lib.hid (show signP s from ⟨i0, by rw [p0]; exact g⟩)
      have D45 : Hid (DecIs s = fun v e => (decOk s ∧ v = (if ((s[0].toNat : Nat) : Int) = 45 then -angV (t) 1000000 else angV (t) 1000000) ∧ e = 0) ∨ (¬ decOk s ∧ v = 0 ∧ e = 12)) := Lib.hid (by rw [← p0, ← ht.out]; rfl)
      clear p0
      generalize hx : ((s[0].toNat : Nat) : Int) = x at *
      rcases g with rfl | rfl
      all_goals
        go_wp2_with fail
        go_at_call 153
        refine (P.out _).mono ?_
        rintro e w1 ⟨a, b, c, r, ok, rfl, J, hB⟩
        clear P
        rcases J with ⟨rfl, hv, rfl, rfl, rfl, rfl⟩ | ⟨rfl, hv⟩
        · obtain ⟨V, Q, T, eV, eQ, eT, v0, v1, t1, q0, q1, p0, p1, z, ⟨a0, a1⟩, ⟨b0, b1⟩, ⟨c0, c1⟩, A⟩ := dec_letters hv
          have hv := Lib.hid hv
          have RB : Hid (90 < two (t) 0 → DecIs s 0 12) := Lib.hid fun g => Or.inr ⟨fun h => absurd (ht.out ▸ h.2.2.1) (Int.not_le.2 g), rfl, rfl⟩
          have RW : Hid (324000000000 < (two (t) 0 * 3600 + two (t) 3 * 60 + two (t) 6) * 1000000 + V * Q → DecIs s 0 12) := Lib.hid fun g => Or.inr ⟨fun h => absurd (ht.out ▸ h.2.2.2) (by rw [A.out]; exact Int.not_le.2 g), rfl, rfl⟩
          have RO : Hid (∀ Y : Int, two (t) 0 ≤ 90 → (two (t) 0 * 3600 + two (t) 3 * 60 + two (t) 6) * 1000000 + V * Q ≤ 324000000000 → Y = (if ((s[0].toNat : Nat) : Int) = 45 then -((two (t) 0 * 3600 + two (t) 3 * 60 + two (t) 6) * 1000000 + V * Q) else (two (t) 0 * 3600 + two (t) 3 * 60 + two (t) 6) * 1000000 + V * Q) → DecIs s Y 0) := Lib.hid fun Y g1 g2 g3 => by rw [D45.out]; refine Or.inl ⟨⟨sg.out, ht.out.symm ▸ hv.out, ht.out.symm ▸ g1, by rw [ht.out, A.out]; exact g2⟩, ?_, rfl⟩; rw [A.out]; rw [hx] at g3; exact g3
          have N1 : ∀ w : World, Calls Tryz.prog 154 #[.string (restOf (t))] w fun e w' => e = .returned (.int .i64 V) ∧ w = w' := fun w => by rw [← eV]; exact number_any _ w (by omega)
          have N2 : ∀ w : World, Calls Tryz.prog 134 #[.int .i64 (restOf (t)).size] w fun e w' => e = .returned (.int .i64 T) ∧ w = w' := fun w => by rw [← eT]; exact rten_any _ w (by omega)
          rw [eT] at eQ
          clear A hv eV eT z
          generalize two (t) 0 = a at *
          generalize two (t) 3 = b at *
          generalize two (t) 6 = c at *
          generalize restOf (t) = r at *
          by_cases g90 : 90 < a
          · have hw := RB.out g90
            clear RO RW RB
            go_wp2_with (refine wpList_store_new rfl 68 (.tmp 4) (.tmp 25) rfl _ _ rfl rfl info42 rfl rfl ?_)
            go_ret2
            exact ⟨_, _, rfl, hw, new3 hB _⟩
          · have a90 : a ≤ 90 := by omega
            have RO' : Hid (∀ Y : Int, (a * 3600 + b * 60 + c) * 1000000 + V * Q ≤ 324000000000 → Y = (if ((s[0].toNat : Nat) : Int) = 45 then -((a * 3600 + b * 60 + c) * 1000000 + V * Q) else (a * 3600 + b * 60 + c) * 1000000 + V * Q) → DecIs s Y 0) := Lib.hid fun Y => RO.out Y a90
            clear RB RO g90 a1
            go_wp2_with (refine wpList_store_new rfl 68 (.tmp 4) (.tmp 25) rfl _ _ rfl rfl info42 rfl rfl ?_)
            go_quiet ((first | (go_at_call 154; first | exact quiet_left (N1 _) | exact quiet_add_left (N1 _)) | (go_at_call 134; first | exact quiet_left (N2 _) | exact quiet_add_left (N2 _))))
            go_wp2_with fail
            all_goals go_ret2
            · exact ⟨_, _, rfl, RW.out (by assumption), drewN_below3 (new3 hB _) _⟩
            · exact ⟨_, _, rfl, RO'.out _ (by assumption) (by rw [hx]; simp), drewN_below3 (new3 hB _) _⟩
        · have hw : DecIs s 0 12 := Or.inr ⟨fun h => hv (ht.out ▸ h.2.1), rfl, rfl⟩
          go_wp2_with (refine wpList_store_new rfl 68 (.tmp 4) (.tmp 25) rfl _ _ rfl rfl info42 rfl rfl ?_)
          go_ret2
          exact ⟨0, 12, rfl, hw, new3 hB _⟩
    · have hw : DecIs s 0 12 := Or.inr ⟨fun h => by
        have := h.1.2
        rw [p0] at this
        exact g this, rfl, rfl⟩
      obtain ⟨g1, g2⟩ := not_or.1 g
      clear g p0
      have b1 : (((s[0].toNat : Nat) : Int) != 43) = true := by simpa using g1
      have b2 : (((s[0].toNat : Nat) : Int) != 45) = true := by simpa using g2
      go_wp2_with fail
      go_ret2
      exact ⟨0, 12, rfl, hw, Below.refl _ _⟩
  · have hw : DecIs s 0 12 := Or.inr ⟨fun h => i0 h.1.1, rfl, rfl⟩
    have m0 : (s.size : Int) = 0 := by omega
    go_wp2_with fail
    go_ret2
    exact ⟨0, 12, rfl, hw, Below.refl _ _⟩
end Gp
end Go.Proofs.YtgodhaphbgllhaaGreatDoor
/-
  What the angle of a text of degrees is.
-/
namespace Go.Proofs.YtgodhaphbgllhaaGreatDoor
namespace Gp
open Go.RowKit Lw

theorem takeWhile_len (p : UInt8 → Bool) : ∀ (l : List UInt8) (k : Nat), k ≤ l.length → (∀ j (hj : j < l.length), j < k → p l[j] = true) → (∀ h : k < l.length, p l[k] = false) → (l.takeWhile p).length = k
  | [], k, hk, _, _ => by simp at hk; simp [hk]
  | a :: l, 0, _, _, h => by
    have := h (by simp)
    simp only [List.getElem_cons_zero] at this
    simp [List.takeWhile_cons, this]
  | a :: l, k + 1, hk, h, he => by
    have h0 := h 0 (by simp) (by omega)
    simp only [List.getElem_cons_zero] at h0
    rw [List.takeWhile_cons, if_pos h0, List.length_cons, takeWhile_len p l k (by simpa using hk) (fun j hj hk' => by have := h (j + 1) (by simpa using hj) (by omega); rwa [List.getElem_cons_succ] at this) (fun h' => by have := he (by simpa using h'); rwa [List.getElem_cons_succ] at this)]
/-- Where the point stands, or the end. -/
def ptOf (t : ByteArray) : Nat := (t.data.toList.takeWhile (fun c => decide (¬ ((c.toNat : Nat) : Int) = 46))).length
theorem pt_eq {t : ByteArray} {k : Nat} (hk : k ≤ t.size) (h : ∀ j (hj : j < t.size), j < k → ¬ ((t[j].toNat : Nat) : Int) = 46) (he : ∀ h : k < t.size, ((t[k].toNat : Nat) : Int) = 46) : ptOf t = k := by
  refine takeWhile_len _ _ k (by simpa using hk) (fun j hj hjk => ?_) (fun hlt => ?_)
  · have := h j (by simpa using hj) hjk
    exact decide_eq_true this
  · have := he (by simpa using hlt)
    exact decide_eq_false (not_not_intro this)
def negP (s : ByteArray) : Prop := 0 < s.size ∧ (((s.get! 0).toNat : Nat) : Int) = 45
instance (s : ByteArray) : Decidable (negP s) := by unfold negP; infer_instance
def negB (s : ByteArray) : Bool := decide (negP s)
def bodyOf (s : ByteArray) : ByteArray := if negP s then s.extract 1 s.size else s
def formP (t : ByteArray) (p : Nat) : Prop := p + 1 < t.size ∧ 1 ≤ p ∧ p ≤ 3 ∧ t.size ≤ p + 10 ∧ (p ≤ 1 ∨ ¬ (((t.get! 0).toNat : Nat) : Int) = 48)
def numP (neg : Bool) (D F : Int) : Prop := 0 ≤ D ∧ 0 ≤ F ∧ D ≤ 360 ∧ (D ≠ 360 ∨ F = 0) ∧ (neg = false ∨ D ≠ 0 ∨ F ≠ 0)
def fracI (F : Int) (n : Nat) : Int := rndI (F * (3600000000 / Nat.gcd (10 ^ n) 3600000000 : Nat)) (10 ^ n / Nat.gcd (10 ^ n) 3600000000 : Nat)
def sgnI (neg : Bool) (x : Int) : Int := if neg then -x else x
def degD (t : ByteArray) (p : Nat) : Int := numV (t.extract 0 p).data.toList
def degF (t : ByteArray) (p : Nat) : Int := numV (t.extract (p + 1) t.size).data.toList
def DegT (neg : Bool) (t : ByteArray) (p : Nat) (v e : Int) : Prop :=
  (formP t p ∧ numP neg (degD t p) (degF t p) ∧ v = sgnI neg (degD t p * 3600000000 + fracI (degF t p) (t.size - (p + 1))) ∧ e = 0) ∨ (¬ (formP t p ∧ numP neg (degD t p) (degF t p)) ∧ v = 0 ∧ e = 12)
theorem DegT.det {neg : Bool} {t : ByteArray} {p : Nat} {v e v' e' : Int} (h : DegT neg t p v e) (g : DegT neg t p v' e') : v = v' ∧ e = e' := by
  rcases h with ⟨h1, h2, h3, h4⟩ | ⟨h1, h2, h3⟩ <;> rcases g with ⟨g1, g2, g3, g4⟩ | ⟨g1, g2, g3⟩
  · exact ⟨by rw [h3, g3], by rw [h4, g4]⟩
  · exact absurd ⟨h1, h2⟩ g1
  · exact absurd ⟨g1, g2⟩ h1
  · exact ⟨by rw [h2, g2], by rw [h3, g3]⟩
theorem numV_9 {l : List UInt8} (h : l.length ≤ 9) : -1 ≤ numV l ∧ numV l ≤ 999999999 := by
  have a := numV_bd l
  have : ∀ k : Nat, k ≤ 9 → (10 : Int) ^ k ≤ 1000000000 := by decide
  have := this _ h
  omega
theorem numV_3 {l : List UInt8} (h : l.length ≤ 3) : -1 ≤ numV l ∧ numV l ≤ 999 := by
  have a := numV_bd l
  have : ∀ k : Nat, k ≤ 3 → (10 : Int) ^ k ≤ 1000 := by decide
  have := this _ h
  omega
theorem degD_bd (t : ByteArray) (p : Nat) (h : p ≤ 3) : -1 ≤ degD t p ∧ degD t p ≤ 999 := numV_3 (by simp; omega)
theorem degF_bd (t : ByteArray) (p : Nat) (h : t.size ≤ p + 10) : -1 ≤ degF t p ∧ degF t p ≤ 999999999 := numV_9 (by simp; omega)
/-- The divisor, for each number of digits. -/
theorem gcd_ten : ∀ n : Nat, n ≤ 9 → Nat.gcd (10 ^ n) 3600000000 = if n = 9 then 200000000 else 10 ^ n := by decide
theorem rndI_one (a : Int) : rndI a 1 = a := by
  unfold rndI
  rw [if_neg (by omega)]
  omega
theorem frac_8 (F : Int) (n : Nat) (h : n ≤ 8) : fracI F n = F * (3600000000 / tenI n) := by
  unfold fracI
  rw [gcd_ten n (by omega), if_neg (by omega), Nat.div_self (Nat.pow_pos (by omega))]
  exact rndI_one _
theorem frac_9 (F : Int) : fracI F 9 = rndI (F * 18) 5 := by
  unfold fracI
  rw [gcd_ten 9 (by omega)]
  rfl
theorem div_9 : ∀ n : Nat, n ≤ 9 → 1 ≤ 10 ^ n / Nat.gcd (10 ^ n) 3600000000 ∧ 10 ^ n / Nat.gcd (10 ^ n) 3600000000 ≤ 1000000000 ∧ 3600000000 / Nat.gcd (10 ^ n) 3600000000 ≤ 3600000000 ∧ 1 ≤ Nat.gcd (10 ^ n) 3600000000 ∧ Nat.gcd (10 ^ n) 3600000000 ≤ 1000000000 := by decide
theorem rndI_5 (a : Int) (h : 0 ≤ a) : 0 ≤ rndI a 5 ∧ 5 * rndI a 5 ≤ a + 5 := by
  unfold rndI
  split <;> omega
theorem frac_bd (F : Int) (n : Nat) (h0 : 0 ≤ F) (h1 : F ≤ 999999999) (h : n ≤ 9) : 0 ≤ fracI F n ∧ fracI F n ≤ 3600000000000000000 := by
  by_cases g : n = 9
  · subst g
    rw [frac_9]
    have := rndI_5 (F * 18) (by omega)
    omega
  · rw [frac_8 F n (by omega)]
    have t := (tenI_bd n (by omega)).1
    have q := div_bd (u := 3600000000) (by omega) t
    have := mul_bd h0 h1 q.1 q.2
    omega
theorem quiet_more {P : Program} {f : FuncId} {args : Array Value} {w : World} {n : Nat} {v : Value} (h : ∀ w : World, Calls P f args w fun e w' => e = .returned v ∧ ∃ m, w' = w.drewN m) :
    Calls P f args (w.drewN n) fun e w'' => e = .returned v ∧ ∃ m, w'' = w.drewN m :=
  (h (w.drewN n)).mono fun _ _ ⟨he, m, hm⟩ => ⟨he, n + m, by rw [hm]; simp only [World.drewN, Nat.add_assoc]⟩
theorem quiet_add_more {P : Program} {f : FuncId} {args : Array Value} {w : World} {a n : Nat} {v : Value} (h : ∀ w : World, Calls P f args w fun e w' => e = .returned v ∧ ∃ m, w' = w.drewN m) :
    Calls P f args (w.drewN (a + n)) fun e w'' => e = .returned v ∧ ∃ m, w'' = w.drewN (a + m) :=
  (h (w.drewN (a + n))).mono fun _ _ ⟨he, m, hm⟩ => ⟨he, n + m, by rw [hm]; simp only [World.drewN, Nat.add_assoc]⟩
theorem mul_9 : ∀ n : Nat, n ≤ 9 → 10 ^ n * (3600000000 / Nat.gcd (10 ^ n) 3600000000) ≤ 18000000000 := by decide
theorem rndI_bd {a u : Int} (ha : 0 ≤ a) (hu : 1 ≤ u) : 0 ≤ rndI a u ∧ rndI a u ≤ a + 1 := by
  have q := div_bd ha hu
  unfold rndI
  split <;> omega
end Gp
end Go.Proofs.YtgodhaphbgllhaaGreatDoor
/-
  Plain facts on Go's quotient and remainder of integers, for any integers; no program in sight.
-/
namespace Go.Proofs.YtgodhaphbgllhaaGreatDoor
namespace Pl
open Go.RowKit

theorem ret_int {k : IntKind} {a b : Int} (h : a = b) : Ending.returned (.int k a) = .returned (.int k b) := by rw [h]

theorem quiet_add {P : Program} {f : FuncId} {args : Array Value} {w : World} {a n : Nat} {v : Value}
    (h : Calls P f args (w.drewN (a + n)) fun e w' => e = .returned v ∧ ∃ m, w' = (w.drewN (a + n)).drewN m) :
    Calls P f args (w.drewN (a + n)) fun e w'' => e = .returned v ∧ ∃ m, w'' = w.drewN (a + m) :=
  h.mono fun _ _ ⟨he, m, hm⟩ => ⟨he, n + m, by rw [hm, World.drewN_drewN, Nat.add_assoc]⟩
theorem quiet_add_left {P : Program} {f : FuncId} {args : Array Value} {w : World} {a n : Nat} {v : Value}
    (h : Calls P f args (w.drewN (a + n)) fun e w' => e = .returned v ∧ w.drewN (a + n) = w') :
    Calls P f args (w.drewN (a + n)) fun e w'' => e = .returned v ∧ ∃ m, w'' = w.drewN (a + m) :=
  h.mono fun _ _ ⟨he, hm⟩ => ⟨he, n, hm.symm⟩
theorem quiet_left {P : Program} {f : FuncId} {args : Array Value} {w : World} {n : Nat} {v : Value}
    (h : Calls P f args (w.drewN n) fun e w' => e = .returned v ∧ w.drewN n = w') : Calls P f args (w.drewN n) fun e w'' => e = .returned v ∧ ∃ m, w'' = w.drewN m :=
  h.mono fun _ _ ⟨he, hm⟩ => ⟨he, n, hm.symm⟩

theorem tmod_fix (a n : Int) (hn : 0 < n) : (if a.tmod n < 0 then a.tmod n + n else a.tmod n) = a % n := by
  have h1 := Int.tmod_eq_emod (a := a) (b := n)
  have h2 := Int.emod_nonneg a (show n ≠ 0 by omega)
  have h3 := Int.emod_lt_of_pos a hn
  by_cases h : 0 ≤ a ∨ n ∣ a
  · rw [if_pos h] at h1
    rw [if_neg (by omega)]; omega
  · rw [if_neg h] at h1
    have : (n.natAbs : Int) = n := by omega
    rw [if_pos (by omega)]; omega

theorem tdiv_fix (a n : Int) (hn : 0 < n) : (if a.tmod n < 0 then a.tdiv n - 1 else a.tdiv n) = a / n := by
  have h1 := Int.tmod_eq_emod (a := a) (b := n)
  have h4 := Int.tdiv_eq_ediv (a := a) (b := n)
  have h2 := Int.emod_nonneg a (show n ≠ 0 by omega)
  have h3 := Int.emod_lt_of_pos a hn
  by_cases h : 0 ≤ a ∨ n ∣ a
  · rw [if_pos h] at h1 h4
    rw [if_neg (by omega)]; omega
  · rw [if_neg h] at h1 h4
    have : (n.natAbs : Int) = n := by omega
    have : n.sign = 1 := Int.sign_eq_one_of_pos hn
    rw [if_pos (by omega)]; omega

theorem tmod_bd (a n : Int) (hn : 0 < n) : -n < a.tmod n ∧ a.tmod n < n := ⟨Int.lt_tmod_of_pos a hn, Int.tmod_lt_of_pos a hn⟩

/-- A difference of two angles, at most half a turn. -/
def dif (a b : Int) : Int := if 1296000000000 < 2 * ((a - b) % 1296000000000) then (a - b) % 1296000000000 - 1296000000000 else (a - b) % 1296000000000
theorem dif_bd (a b : Int) : -648000000000 ≤ dif a b ∧ dif a b ≤ 648000000000 := by unfold dif; split <;> omega
theorem sub_nrm (a b : Int) : (a % 1296000000000 - b % 1296000000000) % 1296000000000 = (a - b) % 1296000000000 := by omega
/-- The sum of the differences of the first elements and one angle. -/
def sumF (f : Nat → Int) (x : Int) : Nat → Int
  | 0 => 0
  | k + 1 => sumF f x k + dif (f k) x
theorem sumF_bd (f : Nat → Int) (x : Int) (k : Nat) : -648000000000 * (k : Int) ≤ sumF f x k ∧ sumF f x k ≤ 648000000000 * (k : Int) := by
  induction k with
  | zero => simp [sumF]
  | succ k ih => have := dif_bd (f k) x; simp only [sumF]; omega
/-- The mean of the first elements. -/
def mean (f : Nat → Int) (n : Nat) : Int := (f 0 + sumF f (f 0) n / n) % 1296000000000
theorem mean_nrm (f : Nat → Int) (n : Nat) : (f 0 % 1296000000000 + sumF f (f 0) n / n) % 1296000000000 = mean f n := by unfold mean; omega
theorem ret2_int {k k' : IntKind} {a b c : Int} (h : a = b) : Ending.returned (.tuple #[.int k a, .int k' c]) = .returned (.tuple #[.int k b, .int k' c]) := by rw [h]
theorem quo_exact (s n : Int) (hn : 0 < n) : (s - s % n).tdiv n = s / n := by
  have h := Int.emod_add_mul_ediv s n
  have e : s - s % n = n * (s / n) := by omega
  rw [e, Int.mul_tdiv_cancel_left _ (by omega)]
theorem quo_bd (s n : Int) (B : Int) (hn : 0 < n) (h0 : -B ≤ s) (h1 : s ≤ B) (hB : 0 ≤ B) : -B ≤ s / n ∧ s / n ≤ B := by
  constructor
  · rw [Int.le_ediv_iff_mul_le hn]
    have := Int.mul_le_mul_of_nonneg_left (show (1 : Int) ≤ n by omega) hB
    have e : -B * n = -(B * n) := Int.neg_mul ..
    omega
  · refine Int.le_trans (Int.ediv_le_ediv hn h1) ?_
    exact Int.ediv_le_self _ hB
end Pl
end Go.Proofs.YtgodhaphbgllhaaGreatDoor
/-
  Norm and Diff of package angle, Norm of the reference.
-/
namespace Go.Proofs.YtgodhaphbgllhaaGreatDoor
namespace Turns
open Go.RowKit

open Pl
set_option maxHeartbeats 400000 in
theorem norm_any (a : Int) (w : World) (h0 : -9223372036854775808 ≤ a) (h1 : a ≤ 9223372036854775807) :
    Calls Tryz.prog 83 #[.int .i64 a] w fun e w' => e = .returned (.int .i64 (a % 1296000000000)) ∧ w = w' := by
  have hf := Pl.tmod_fix a 1296000000000 (by omega)
  obtain ⟨hb1, hb2⟩ := Pl.tmod_bd a 1296000000000 (by omega)
  by_cases hc : a.tmod 1296000000000 < 0
  · rw [if_pos hc] at hf
    have Hf := Lib.hid hf
    clear hf
    go_enter Tryz.func83, Tryz.ntmps83
    go_wp2
    go_ret
    exact ⟨ret_int Hf.out, rfl⟩
  · rw [if_neg hc] at hf
    have Hf := Lib.hid hf
    clear hf
    go_enter Tryz.func83, Tryz.ntmps83
    go_wp2
    go_ret
    exact ⟨ret_int Hf.out, rfl⟩

set_option maxHeartbeats 400000 in
theorem rnorm_any (a : Int) (w : World) (h0 : -9223372036854775808 ≤ a) (h1 : a ≤ 9223372036854775807) :
    Calls Tryz.prog 136 #[.int .i64 a] w fun e w' => e = .returned (.int .i64 (a % 1296000000000)) ∧ w = w' := by
  have hf := Pl.tmod_fix a 1296000000000 (by omega)
  obtain ⟨hb1, hb2⟩ := Pl.tmod_bd a 1296000000000 (by omega)
  by_cases hc : a.tmod 1296000000000 < 0
  · rw [if_pos hc] at hf
    have Hf := Lib.hid hf
    clear hf
    go_enter Tryz.func136, Tryz.ntmps136
    go_wp2
    go_ret
    exact ⟨ret_int Hf.out, rfl⟩
  · rw [if_neg hc] at hf
    have Hf := Lib.hid hf
    clear hf
    go_enter Tryz.func136, Tryz.ntmps136
    go_wp2
    go_ret
    exact ⟨ret_int Hf.out, rfl⟩

end Turns
end Go.Proofs.YtgodhaphbgllhaaGreatDoor
/-
  Texts of angles: RaText, DecText and DegText of package angle.
-/
namespace Go.Proofs.YtgodhaphbgllhaaGreatDoor
namespace Gt
open Go.RowKit Lw Gp

/-- The parts of an angle, rounded. -/
def rndN (a u : Nat) : Nat := (rndI a u).toNat
theorem rndN_eq (a u : Nat) : ((rndN a u : Nat) : Int) = rndI a u := by
  have : 0 ≤ rndI a u := by
    unfold rndI
    have : (0 : Int) ≤ (a : Int) / u := Int.ediv_nonneg (by omega) (by omega)
    split <;> omega
  unfold rndN
  omega
theorem rndN_le (a u : Nat) (hu : 1 ≤ u) : rndN a u ≤ a + 1 := by
  have h := rndN_eq a u
  have : (a : Int) / u ≤ a := Int.ediv_le_self _ (by omega)
  unfold rndI at h
  split at h <;> omega
theorem clock_len (n d : Nat) (hn : n ≤ 1000000000000) (hd : d ≤ 18) : (clockL n d).length ≤ 180 := by
  have m1 : n / 10 ^ d ≤ n := Nat.div_le_self _ _
  have m3 : n % 10 ^ d ≤ n := Nat.mod_le _ _
  unfold clockL
  generalize n / 10 ^ d = s at *
  generalize n % 10 ^ d = r at *
  have q1 : s / 3600 ≤ s := Nat.div_le_self _ _
  have g := glue_len ((s / 3600 : Nat) : Int) ((s / 60 % 60 : Nat) : Int) ((s % 60 : Nat) : Int) (by omega) (by omega) (by omega) (by omega) (by omega) (by omega)
  have p := pad_len (r : Int) d (by omega) (by omega) (by omega)
  rw [List.length_append]
  split
  · rw [List.length_cons]; omega
  · simp only [List.length_nil]; omega
/-- The text of a right ascension: so many digits. -/
def raL (a : Int) (d : Nat) : List UInt8 := clockL (rndN (a % 1296000000000).toNat (15000000 / 10 ^ d) % (86400 * 10 ^ d)) d
theorem ra_letters (a : Int) (d : Nat) (hd : d ≤ 6) : ∃ p u m r n : Nat, 10 ^ d = p ∧ 15000000 / p = u ∧ (a % 1296000000000) = (m : Int) ∧ rndN m u = r ∧ r % (86400 * p) = n ∧ 1 ≤ p ∧ p ≤ 1000000 ∧ 1 ≤ u ∧ u ≤ 15000000 ∧ m < 1296000000000 ∧ r ≤ 1296000000000 ∧ n ≤ 86400000000 ∧ raL a d = clockL n d := by
  have hm := Int.emod_nonneg a (show (1296000000000 : Int) ≠ 0 by omega)
  have hm2 := Int.emod_lt_of_pos a (show (0 : Int) < 1296000000000 by omega)
  have hp : ∀ d : Nat, d ≤ 6 → 1 ≤ 10 ^ d ∧ 10 ^ d ≤ 1000000 ∧ 1 ≤ 15000000 / 10 ^ d ∧ 15000000 / 10 ^ d ≤ 15000000 := by decide
  obtain ⟨h1, h2, h3, h4⟩ := hp d hd
  have hr := rndN_le (a % 1296000000000).toNat (15000000 / 10 ^ d) h3
  have hn : rndN (a % 1296000000000).toNat (15000000 / 10 ^ d) % (86400 * 10 ^ d) ≤ 86400000000 := by
    have := Nat.mod_lt (rndN (a % 1296000000000).toNat (15000000 / 10 ^ d)) (show 0 < 86400 * 10 ^ d by omega)
    omega
  exact ⟨_, _, (a % 1296000000000).toNat, _, _, rfl, rfl, by omega, rfl, rfl, h1, h2, h3, h4, by omega, by omega, hn, rfl⟩
set_option maxRecDepth 100000 in
set_option maxHeartbeats 4000000 in
theorem ratext_any (a : Int) (d : Nat) (w : World) (hT : Tab w) (h0 : -9223372036854775808 ≤ a) (h1 : a ≤ 9223372036854775807) (hd : d ≤ 6) :
    Calls Tryz.prog 36 #[.int .i64 a, .int .i64 d] w fun e w' => e = .returned (.tuple #[.string ⟨(raL a d).toArray⟩, .int .i64 0]) ∧ Below w.heap.size w w' := by
  obtain ⟨p, u, m, r, n, e1, e2, e3, e4, e5, p1, p2, u1, u2, m1, r1, n1, K⟩ := ra_letters a d hd
  have hT := Lib.hid hT
  have K := Lib.hid K
  have NT : ∀ w : World, Calls Tryz.prog 81 #[.int .i64 d] w fun e w' => e = .returned (.int .i64 (p : Int)) ∧ w = w' := fun w => by rw [← e1]; exact ten_any d w (by omega)
  have NN : ∀ w : World, Calls Tryz.prog 83 #[.int .i64 a] w fun e w' => e = .returned (.int .i64 (m : Int)) ∧ w = w' := fun w => by rw [← e3]; exact Turns.norm_any a w h0 h1
  have NR : ∀ w : World, Calls Tryz.prog 82 #[.int .i64 (m : Int), .int .i64 (u : Int)] w fun e w' => e = .returned (.int .i64 (r : Int)) ∧ ∃ k, w' = w.drewN k := fun w => by rw [← e4, rndN_eq]; exact round_any m u w (by omega) (by omega) (by omega)
  have t1 : (15000000 : Int).tdiv (p : Int) = (u : Int) := by rw [← e2]; rfl
  have t2 : (r : Int).tmod (86400 * (p : Int)) = (n : Int) := by rw [← e5]; rfl
  have m0 : ¬ (d : Int) < 0 := by omega
  have m6 : ¬ (6 : Int) < d := by omega
  have p0 : (p : Int) ≠ 0 := by omega
  have p8 : (86400 * (p : Int)) ≠ 0 := by omega
  have NC : ∀ k, Calls Tryz.prog 84 #[.int .i64 n, .int .i64 d] (w.drewN k) fun e w' => e = .returned (.string ⟨(clockL n d).toArray⟩) ∧ Below w.heap.size w w' := fun k =>
    (clock_any n d (w.drewN k) (hT.out.below (drewN_below2 (Below.refl _ _) k)) (by omega) (by omega)).mono fun _ _ ⟨x, y⟩ => ⟨x, (drewN_below2 (Below.refl w.heap.size w) k).trans y⟩
  clear e1 e2 e3 e4 e5
  go_enter Tryz.func36, Tryz.ntmps36
  go_wp2_with (go_at_call 81; refine (NT _).mono ?_; rintro e w' ⟨rfl, rfl⟩)
  go_quiet ((first | (go_at_call 83; first | exact quiet_left (NN _) | exact quiet_add_left (NN _)) | (go_at_call 82; first | exact quiet_more NR | exact quiet_add_more NR)))
  go_wp2_with fail
  go_at_call 84
  refine (NC _).mono ?_
  rintro e w2 ⟨rfl, hB⟩
  go_wp2_with fail
  go_ret2
  exact ⟨by rw [K.out]; rfl, hB⟩
/-- The text of a declination. -/
def decL (a : Int) (d : Nat) : List UInt8 := (if a < 0 then 45 else 43) :: clockL (rndN a.natAbs (1000000 / 10 ^ d)) d
theorem dec_lets (m d : Nat) (hm : m ≤ 324000000000) (hd : d ≤ 6) : ∃ p u r : Nat, 10 ^ d = p ∧ 1000000 / p = u ∧ rndN m u = r ∧ 1 ≤ p ∧ p ≤ 1000000 ∧ 1 ≤ u ∧ u ≤ 1000000 ∧ r ≤ 324000000001 ∧ rndN m (1000000 / 10 ^ d) = r := by
  have hp : ∀ d : Nat, d ≤ 6 → 1 ≤ 10 ^ d ∧ 10 ^ d ≤ 1000000 ∧ 1 ≤ 1000000 / 10 ^ d ∧ 1000000 / 10 ^ d ≤ 1000000 := by decide
  obtain ⟨h1, h2, h3, h4⟩ := hp d hd
  have hr := rndN_le m (1000000 / 10 ^ d) h3
  exact ⟨_, _, _, rfl, rfl, rfl, h1, h2, h3, h4, by omega, rfl⟩
set_option maxRecDepth 100000 in
set_option maxHeartbeats 4000000 in
theorem dectext_any (a : Int) (d : Nat) (w : World) (hT : Tab w) (h0 : -324000000000 ≤ a) (h1 : a ≤ 324000000000) (hd : d ≤ 6) :
    Calls Tryz.prog 37 #[.int .i64 a, .int .i64 d] w fun e w' => e = .returned (.tuple #[.string ⟨(decL a d).toArray⟩, .int .i64 0]) ∧ Below w.heap.size w w' := by
  obtain ⟨m, em⟩ : ∃ m : Nat, a.natAbs = m := ⟨_, rfl⟩
  obtain ⟨p, u, r, e1, e2, e3, p1, p2, u1, u2, r1, eK⟩ := dec_lets m d (by omega) hd
  have hT := Lib.hid hT
  have NT : ∀ w : World, Calls Tryz.prog 81 #[.int .i64 d] w fun e w' => e = .returned (.int .i64 (p : Int)) ∧ w = w' := fun w => by rw [← e1]; exact ten_any d w (by omega)
  have NR : ∀ w : World, Calls Tryz.prog 82 #[.int .i64 (m : Int), .int .i64 (u : Int)] w fun e w' => e = .returned (.int .i64 (r : Int)) ∧ ∃ k, w' = w.drewN k := fun w => by rw [← e3, rndN_eq]; exact round_any m u w (by omega) (by omega) (by omega)
  have t1 : (1000000 : Int).tdiv (p : Int) = (u : Int) := by rw [← e2]; rfl
  have m0 : ¬ (d : Int) < 0 := by omega
  have m6 : ¬ (6 : Int) < d := by omega
  have p0 : (p : Int) ≠ 0 := by omega
  have NC : ∀ k, Calls Tryz.prog 84 #[.int .i64 r, .int .i64 d] (w.drewN k) fun e w' => e = .returned (.string ⟨(clockL r d).toArray⟩) ∧ Below w.heap.size w w' := fun k =>
    (clock_any r d (w.drewN k) (hT.out.below (drewN_below2 (Below.refl _ _) k)) (by omega) (by omega)).mono fun _ _ ⟨x, y⟩ => ⟨x, (drewN_below2 (Below.refl w.heap.size w) k).trans y⟩
  have CL := clock_len r d (by omega) (by omega)
  by_cases hn : a < 0
  · have ea : a = -(m : Int) := by omega
    have K : Hid (decL a d = 45 :: clockL r d) := Lib.hid (by unfold decL; rw [if_pos hn, em, eK])
    have en : -a = (m : Int) := by omega
    have sa := str_app [45] (clockL r d)
    generalize clockL r d = g at *
    clear e1 e2 e3 ea eK em
    go_enter Tryz.func37, Tryz.ntmps37
    go_wp2_with (first | (go_at_call 81; refine (NT _).mono ?_; rintro e w' ⟨rfl, rfl⟩) | (go_at_call 82; refine (NR _).mono ?_; rintro e w' ⟨rfl, k, rfl⟩) | (go_at_call 84; refine (NC _).mono ?_; rintro e w2 ⟨rfl, hB⟩))
    go_ret2
    exact ⟨by rw [K.out]; rfl, hB⟩
  · have ea : a = (m : Int) := by omega
    have K : Hid (decL a d = 43 :: clockL r d) := Lib.hid (by unfold decL; rw [if_neg hn, em, eK])
    have sa := str_app [43] (clockL r d)
    generalize clockL r d = g at *
    clear e1 e2 e3 eK em
    go_enter Tryz.func37, Tryz.ntmps37
    go_wp2_with (first | (go_at_call 81; refine (NT _).mono ?_; rintro e w' ⟨rfl, rfl⟩) | (go_at_call 82; refine (NR _).mono ?_; rintro e w' ⟨rfl, k, rfl⟩) | (go_at_call 84; refine (NC _).mono ?_; rintro e w2 ⟨rfl, hB⟩))
    go_ret2
    exact ⟨by rw [K.out]; rfl, hB⟩
end Gt
end Go.Proofs.YtgodhaphbgllhaaGreatDoor
/-
  The walk of magText of package obs.
-/
namespace Go.Proofs.YtgodhaphbgllhaaGreatDoor
namespace Ow
open Go.RowKit Lw Go.Proofs.YtgodhaphbgllhaaGreatDoor.Ap Go.Proofs.YtgodhaphbgllhaaGreatDoor.Op Go.Proofs.YtgodhaphbgllhaaGreatDoor.Mp Go.Proofs.YtgodhaphbgllhaaGreatDoor.Mw Go.Proofs.YtgodhaphbgllhaaGreatDoor.At

theorem itoa_dg (n : Nat) (h : n < 10) : Lib.itoa (n : Int) = [dg n] := by
  unfold Lib.itoa
  rw [if_neg (by omega), Int.toNat_natCast, Lib.decDigits_one h]
  rfl
theorem sp_rep (k : Nat) : Lib.repeatL [32] k = spL k := by
  induction k with
  | zero => rfl
  | succ k ih => simp_all [Lib.repeatL, spL, List.replicate_succ]
theorem decL_two (n : Nat) : decL n 2 = [dg (n / 10 % 10), dg (n % 10)] := rfl
theorem itoa_any (n : Int) (w : World) (hT : Gt.Tab w) (h0 : 0 ≤ n) (h1 : n ≤ 1000000000000000000) :
    Calls Tryz.prog 86 #[.int .i64 n] w fun e w' => e = .returned (.string ⟨(Lib.itoa n).toArray⟩) ∧ Below w.heap.size w w' :=
  (Tryz.strconv_Itoa n (by omega) (by omega) w hT).mono fun _ _ ⟨x, k, os, y⟩ => ⟨x, by rw [y]; exact Gt.below_grow w k os⟩
theorem size_mk (l : List UInt8) : (⟨l.toArray⟩ : ByteArray).size = l.length := by simp [ByteArray.size]
theorem str_app (a b : List UInt8) : ((⟨a.toArray⟩ : ByteArray) ++ ⟨b.toArray⟩) = ⟨(a ++ b).toArray⟩ := by
  apply ByteArray.ext
  simp [ByteArray.data_append]
theorem add_L (a b : List UInt8) (h : a.length + b.length ≤ 9223372036854775807) : ∀ w' : World, (Op.stringOp .add (⟨a.toArray⟩ : ByteArray) ⟨b.toArray⟩).run Tryz.prog w' = .ok (.string ⟨(a ++ b).toArray⟩) w' := fun w' => by
  rw [run_string_add_sum (P := Tryz.prog) (w := w') _ _ (by rw [size_mk, size_mk]; exact h), str_app]

set_option maxRecDepth 100000 in
set_option maxHeartbeats 8000000 in
theorem magtext_any (m : Int) (w : World) (hT : Gt.Tab w) (h0 : -999 ≤ m) (h1 : m ≤ 9999) :
    Calls Tryz.prog 39 #[.int .i64 m] w fun e w' => e = .returned (.string ⟨(magL m).toArray⟩) ∧ Below w.heap.size w w' := by
  have HB := Lib.hid (show magB m = (if m < 0 then [45] else []) ++ Lib.itoa ((m.natAbs / 100 : Nat) : Int) ++ [46] ++ decL m.natAbs 2 from rfl)
  have HL := Lib.hid (show magL m = spL (5 - (magB m).length) ++ magB m from rfl)
  have em : max m (-m) = (m.natAbs : Int) := by omega
  have nb : m.natAbs ≤ 9999 := by omega
  generalize m.natAbs = n at *
  have i2 : ((n / 10 % 10 : Nat) : Int) = (n : Int) / 10 % 10 := by omega
  have i3 : ((n % 10 : Nat) : Int) = (n : Int) % 10 := by omega
  have i1 : ((n / 100 : Nat) : Int) = (n : Int) / 100 := by omega
  have I1 := Lib.hid (fun w' (h : Gt.Tab w') => itoa_any ((n / 100 : Nat) : Int) w' h (by omega) (by omega))
  have I2 := Lib.hid (fun w' (h : Gt.Tab w') => itoa_any ((n / 10 % 10 : Nat) : Int) w' h (by omega) (by omega))
  have I3 := Lib.hid (fun w' (h : Gt.Tab w') => itoa_any ((n % 10 : Nat) : Int) w' h (by omega) (by omega))
  rw [itoa_dg _ (Nat.mod_lt _ (by omega))] at I2 I3
  have l1 := Lib.itoa_length_le ((n / 100 : Nat) : Int) (by omega) (by omega)
  rw [i1] at I1 l1 HB
  rw [i2] at I2
  rw [i3] at I3
  clear i1 i2 i3
  have eB : (if m < 0 then [45] else []) ++ Lib.itoa ((n : Int) / 100) ++ [46] ++ [dg (n / 10 % 10), dg (n % 10)] = (if m < 0 then [45] else []) ++ (Lib.itoa ((n : Int) / 100) ++ [46] ++ [dg (n / 10 % 10)] ++ [dg (n % 10)]) := by simp
  rw [decL_two, eB] at HB
  clear eB
  have l2 : (Lib.itoa ((n : Int) / 100)).length ≤ 2 ∧ (m < 0 → (Lib.itoa ((n : Int) / 100)).length ≤ 1) := by
    rw [show (n : Int) / 100 = ((n / 100 : Nat) : Int) by omega]
    by_cases c : n / 100 < 10
    · rw [itoa_dg _ c]; simp
    · refine ⟨?_, fun h => by omega⟩
      unfold Lib.itoa
      rw [if_neg (by omega), Int.toNat_natCast, Lib.decDigits_two c (by omega)]; simp
  generalize Lib.itoa ((n : Int) / 100) = L at *
  generalize dg (n / 10 % 10) = x at *
  generalize dg (n % 10) = y at *
  have HT := Lib.hid hT
  clear hT
  go_enter Tryz.func39, Tryz.ntmps39
  go_wp2_with fail
  refine (I1.out _ HT.out).mono ?_
  rintro e w1 ⟨rfl, hb1⟩
  have HT1 := Lib.hid (HT.out.below hb1)
  clear I1
  go_wp2_with fail
  refine (I2.out _ HT1.out).mono ?_
  rintro e w2 ⟨rfl, hb2⟩
  have HT2 := Lib.hid (HT1.out.below hb2)
  have hb2 := below_then hb1 hb2
  clear I2 hb1 HT1
  go_wp2_with fail
  refine (I3.out _ HT2.out).mono ?_
  rintro e w3 ⟨rfl, hb3⟩
  have HT3 := Lib.hid (HT2.out.below hb3)
  have hb3 := below_then hb2 hb3
  clear I3 hb2 HT2
  by_cases hm : m < 0
  · rw [if_pos hm] at HB
    have l3 := l2.2 hm
    have eL : (magB m).length = (1 + (L.length + 2 + 1)) := by rw [HB.out]; simp <;> omega
    have R := Lib.hid (Tryz.strings_Repeat ⟨#[32]⟩ (5 - (1 + (L.length + 2 + 1))) w3 (by omega) (by show 1 * _ ≤ _; omega))
    have rl := Gt.rep_len (5 - (1 + (L.length + 2 + 1)))
    rw [show ((5 - (1 + (L.length + 2 + 1)) : Nat) : Int) = 5 - (1 + ((L.length : Int) + 2 + 1)) by omega, show (⟨#[32]⟩ : ByteArray).data.toList = [32] from rfl] at R
    go_wp2_with fail
    refine R.out.mono ?_
    rintro e w4 ⟨rfl, hb4⟩
    have hb := below_then hb3 hb4
    have rl2 : (Lib.repeatL [32] (5 - (1 + (L.length + 2 + 1)))).length = 5 - (1 + (L.length + 2 + 1)) := by rw [sp_rep]; simp [spL]
    have es := sp_rep (5 - (1 + (L.length + 2 + 1)))
    rw [← eL] at es
    have E := Lib.hid (show magL m = Lib.repeatL [32] (5 - (1 + (L.length + 2 + 1))) ++ ([45] ++ (L ++ [46] ++ [x] ++ [y])) by rw [HL.out, ← es, eL, HB.out])
    clear HL HB es rl R eL
    generalize Lib.repeatL [32] (5 - (1 + (L.length + 2 + 1))) = Q at *
    go_wp2_with fail
    go_ret
    have S1 : ((⟨Q.toArray⟩ : ByteArray) ++ (⟨#[45]⟩ ++ (⟨L.toArray⟩ ++ ⟨#[46]⟩ ++ ⟨#[x]⟩ ++ ⟨#[y]⟩))) = ⟨(Q ++ ([45] ++ (L ++ [46] ++ [x] ++ [y]))).toArray⟩ := by
      apply ByteArray.ext
      simp [ByteArray.data_append]
    exact ⟨by rw [E.out, ← S1]; rfl, hb⟩
  · rw [if_neg hm, List.nil_append] at HB
    have eL : (magB m).length = (L.length + 2 + 1) := by rw [HB.out]; simp <;> omega
    have R := Lib.hid (Tryz.strings_Repeat ⟨#[32]⟩ (5 - (L.length + 2 + 1)) w3 (by omega) (by show 1 * _ ≤ _; omega))
    have rl := Gt.rep_len (5 - (L.length + 2 + 1))
    rw [show ((5 - (L.length + 2 + 1) : Nat) : Int) = 5 - ((L.length : Int) + 2 + 1) by omega, show (⟨#[32]⟩ : ByteArray).data.toList = [32] from rfl] at R
    go_wp2_with fail
    refine R.out.mono ?_
    rintro e w4 ⟨rfl, hb4⟩
    have hb := below_then hb3 hb4
    have rl2 : (Lib.repeatL [32] (5 - (L.length + 2 + 1))).length = 5 - (L.length + 2 + 1) := by rw [sp_rep]; simp [spL]
    have es := sp_rep (5 - (L.length + 2 + 1))
    rw [← eL] at es
    have E := Lib.hid (show magL m = Lib.repeatL [32] (5 - (L.length + 2 + 1)) ++ (L ++ [46] ++ [x] ++ [y]) by rw [HL.out, ← es, eL, HB.out])
    clear HL HB es rl R eL
    generalize Lib.repeatL [32] (5 - (L.length + 2 + 1)) = Q at *
    go_wp2_with fail
    go_ret
    have S1 : ((⟨Q.toArray⟩ : ByteArray) ++ (⟨L.toArray⟩ ++ ⟨#[46]⟩ ++ ⟨#[x]⟩ ++ ⟨#[y]⟩)) = ⟨(Q ++ (L ++ [46] ++ [x] ++ [y])).toArray⟩ := by
      apply ByteArray.ext
      simp [ByteArray.data_append]
    exact ⟨by rw [E.out, ← S1]; rfl, hb⟩
end Ow
end Go.Proofs.YtgodhaphbgllhaaGreatDoor
