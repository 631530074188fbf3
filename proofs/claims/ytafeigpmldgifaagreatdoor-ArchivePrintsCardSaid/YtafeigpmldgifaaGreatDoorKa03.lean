/-
  Lemmas and walks, texts joined: MForm2, MText, MDiv, MDivW, MPart, MDay, MRdPl, MFld, MFld2, MParse, MDayA.
-/
import Derived.Deep.RegionHeld3
import Derived.StillTailTactics
import Derived.WalkKit
import Derived.Lib.BitFns
import Derived.Laws.Bits64b
import Derived.OneCell
import Derived.OwnWalk
import Derived.Deep.AppendLies
import Derived.LoopTactic
import Derived.Test.YtafeigpmldgifaaGreatDoorKa02
import Derived.Test.YtafeigpmldgifaaGreatDoorKa01
set_option linter.unusedSimpArgs false
set_option linter.unusedVariables false
/-
  Plain law: what head, tail and numbers of a text say is what the text says; no walk here.
-/
namespace Go.Proofs.YtafeigpmldgifaaGreatDoor
namespace Ap
open Go.RowKit Lw Go.Proofs.YtafeigpmldgifaaGreatDoor.Mp

theorem bt_ext (s : ByteArray) (i j k : Nat) (hj : j ≤ s.size) (hk : i + k < j) : bt (s.extract i j) k = bt s (i + k) := by
  have h1 : k < (s.extract i j).size := by simp; omega
  rw [bt_of _ k h1, bt_of s (i + k) (by omega)]
  simp [ByteArray.getElem_extract]
theorem size_ext (s : ByteArray) (i j : Nat) (hj : j ≤ s.size) : (s.extract i j).size = j - i := by simp; omega
theorem ext_ext (s : ByteArray) (j k : Nat) (h : k ≤ j) (hj : j ≤ s.size) : (s.extract 0 j).extract 0 k = s.extract 0 k := by
  rw [ByteArray.extract_extract]
  congr 1 <;> omega
theorem ext_ext2 (s : ByteArray) (i j : Nat) (hj : j ≤ s.size) : (s.extract 0 j).extract i j = s.extract i j := by
  rw [ByteArray.extract_extract]
  congr 1 <;> omega
theorem pt_lo (s : ByteArray) (j : Nat) (h : j < ptS s) : ¬ bt s j = 46 := by
  have hj : j < s.size := Nat.lt_of_lt_of_le h (ptS_le s)
  rw [bt_of s j hj]
  exact ptL_lo s.data.toList j h (by simpa using hj)
theorem pt_at (s : ByteArray) (h : ptS s < s.size) : bt s (ptS s) = 46 := by
  rw [bt_of s _ h]
  exact ptL_at s.data.toList (by have g := h; unfold ptS at g; simpa using g)
theorem pt_uniq {s : ByteArray} {q : Nat} (h : q ≤ s.size) (h1 : ∀ j, j < q → ¬ bt s j = 46) (h2 : q < s.size → bt s q = 46) : ptS s = q := by
  refine ptL_uniq (by simpa using h) (fun j g hj => ?_) (fun g => ?_)
  · have hs : j < s.size := by simpa using g
    have := h1 j hj
    rw [bt_of s j hs] at this
    exact this
  · have hs : q < s.size := by simpa using g
    have := h2 hs
    rw [bt_of s q hs] at this
    exact this
theorem allD_bt (s : ByteArray) : allD s.data.toList ↔ ∀ k, k < s.size → 48 ≤ bt s k ∧ bt s k ≤ 57 := by
  constructor
  · intro h k hk
    rw [bt_of s k hk]
    exact h _ (by
      have : s[k] = s.data.toList[k]'(by simpa using hk) := rfl
      rw [this]; exact List.getElem_mem _)
  · intro h c hc
    obtain ⟨k, hk, rfl⟩ := List.mem_iff_getElem.1 hc
    have hs : k < s.size := by simpa using hk
    have := h k hs
    rw [bt_of s k hs] at this
    exact this
theorem numV_nn (l : List UInt8) : 0 ≤ numV l ↔ allD l := by
  unfold numV
  by_cases h : allD l
  · rw [if_pos h]
    have e : l.take l.length = l := List.take_length
    have := numL_bd l l.length (Nat.le_refl _) (by rw [e]; exact h)
    rw [e] at this
    exact ⟨fun _ => h, fun _ => this.1⟩
  · rw [if_neg h]
    exact ⟨fun g => absurd g (by omega), fun g => absurd g h⟩
theorem numV_yes {l : List UInt8} (h : allD l) : numV l = numL l := if_pos h
/-! ### The digits behind the point -/
def pad6 (t : ByteArray) : ByteArray := t ++ P6.extract t.size P6.size
theorem zeros6 (i : Nat) (h : i ≤ 6) : (P6.extract i P6.size).data.toList = List.replicate (6 - i) 48 := by
  have : i = 0 ∨ i = 1 ∨ i = 2 ∨ i = 3 ∨ i = 4 ∨ i = 5 ∨ i = 6 := by omega
  rcases this with rfl | rfl | rfl | rfl | rfl | rfl | rfl <;> decide
theorem pad6_list (t : ByteArray) (h : t.size ≤ 6) : (pad6 t).data.toList = t.data.toList ++ List.replicate (6 - t.size) 48 := by
  rw [← zeros6 t.size h]
  simp [pad6]
theorem pad6_size (t : ByteArray) (h : t.size ≤ 6) : (pad6 t).size = 6 := by
  have := congrArg List.length (pad6_list t h)
  simp at this
  omega
theorem numL_zeros (l : List UInt8) : ∀ k, numL (l ++ List.replicate k 48) = numL l * tenI k
  | 0 => by simp [tenI]
  | k + 1 => by
    have ih := numL_zeros l k
    have e : List.replicate (k + 1) (48 : UInt8) = List.replicate k 48 ++ [48] := List.replicate_succ'
    have h48 : ((48 : UInt8).toNat : Int) = 48 := rfl
    rw [e, ← List.append_assoc, numL_snoc, ih, tenI_s, h48, ← Int.mul_assoc (numL l) (tenI k) 10]
    generalize numL l * tenI k = Z
    omega
theorem P6_at : ∀ k, k < 6 → bt P6 k = 48 := by decide
theorem like6 (t : ByteArray) (h : t.size ≤ 6) : likeP (pad6 t) P6 ↔ allD t.data.toList := by
  have hs := pad6_size t h
  have ha := allD_bt (pad6 t)
  rw [pad6_list t h, hs] at ha
  have hb : allD (t.data.toList ++ List.replicate (6 - t.size) 48) ↔ allD t.data.toList := by
    constructor
    · exact fun g c hc => g c (List.mem_append_left _ hc)
    · intro g c hc
      rcases List.mem_append.1 hc with hc | hc
      · exact g c hc
      · have := (List.mem_replicate.1 hc).2
        subst this
        exact ⟨by decide, by decide⟩
  rw [← hb, ha]
  constructor
  · intro ⟨_, g⟩ k hk
    exact (g k (by omega)).1 (P6_at k hk)
  · intro g
    refine ⟨hs, fun k hk => ⟨fun _ => g k (by omega), fun e => absurd (P6_at k (by omega)) e⟩⟩
theorem grp6 (t : ByteArray) (h : t.size ≤ 6) : grpL (pad6 t) P6 (pad6 t).size = [numL t.data.toList * tenI (6 - t.size)] := by
  have hs := pad6_size t h
  have := grp_run (pad6 t) P6 0 rfl 6 (by omega) (by omega) (fun j _ hj => P6_at j (by omega))
  rw [hs, show (6 : Nat) = 0 + 6 by omega, this]
  have e : (pad6 t).extract 0 (0 + 6) = pad6 t := by rw [show 0 + 6 = (pad6 t).size by omega]; exact extract_all _
  rw [e, pad6_list t h, numL_zeros]
  rfl
/-! ### The numbers ahead of the point -/
theorem P19_no : ∀ j, j < 19 → ¬ bt P19 j = 46 := by decide
theorem P10_no : ∀ j, j < 10 → ¬ bt P10 j = 46 := by decide
theorem like_no46 {h p : ByteArray} {n : Nat} (hl : likeP h p) (hn : h.size = n) (hp : ∀ j, j < n → ¬ bt p j = 46) : ∀ j, j < n → ¬ bt h j = 46 := fun j hj e => by
  obtain ⟨a, b⟩ := hl.2 j (by omega)
  by_cases g : bt p j = 48
  · have := a g; omega
  · have := b g
    exact hp j hj (by omega)
/-- What the program finds of a text. -/
def progT (s : ByteArray) : Prop := zP s ∧ likeP (hdP (noZ s)) P19 ∧ (ptS (noZ s) < (noZ s).size → 1 ≤ (tlP (noZ s)).size ∧ (tlP (noZ s)).size ≤ 6) ∧ allD (tlP (noZ s)).data.toList
theorem P19_size : P19.size = 19 := rfl
theorem P10_size : P10.size = 10 := rfl
theorem prog_text {s : ByteArray} (g : progT s) : textP s ∧ hdP (noZ s) = s.extract 0 19 ∧ microV s = numL (tlP (noZ s)).data.toList * tenI (6 - (tlP (noZ s)).size) := by
  obtain ⟨z, lk, sz, ad⟩ := g
  have hr : noZ s = s.extract 0 (s.size - 1) := if_pos z
  obtain ⟨z1, z2⟩ := z
  have rs : (noZ s).size = s.size - 1 := by rw [hr, size_ext s _ _ (by omega)]; omega
  have hq : ptS (noZ s) = 19 := by
    have := lk.1
    rw [P19_size] at this
    have le := ptS_le (noZ s)
    unfold hdP at this
    rw [size_ext _ _ _ le] at this
    omega
  have hle := ptS_le (noZ s)
  have hh : hdP (noZ s) = s.extract 0 19 := by
    unfold hdP
    rw [hq, hr, ext_ext s _ _ (by omega) (by omega)]
  rw [hh] at lk
  by_cases hp : ptS (noZ s) < (noZ s).size
  · have ht : tlP (noZ s) = s.extract 20 (s.size - 1) := by
      unfold tlP
      rw [if_pos hp, hq, rs, hr, ext_ext2 s _ _ (by omega)]
    have hs := sz hp
    rw [ht, size_ext s _ _ (by omega)] at hs
    have h46 := pt_at (noZ s) hp
    rw [hq, hr, bt_ext s 0 (s.size - 1) 19 (by omega) (by omega)] at h46
    have ad' := ad
    rw [ht] at ad'
    refine ⟨⟨by omega, by omega, by omega, z2, lk, fun _ => ⟨by simpa using h46, (numV_nn _).2 ad'⟩⟩, hh, ?_⟩
    unfold microV nm
    rw [if_neg (by omega), numV_yes ad', ht, size_ext s _ _ (by omega), show 6 - (s.size - 1 - 20) = 27 - s.size by omega]
  · have ht : tlP (noZ s) = ⟨#[]⟩ := if_neg hp
    refine ⟨⟨by omega, by omega, by omega, z2, lk, fun h => absurd h (by omega)⟩, hh, ?_⟩
    unfold microV
    rw [if_pos (by omega), ht]
    rfl
theorem text_prog {s : ByteArray} (g : textP s) : progT s := by
  obtain ⟨h20, h21, h27, hz, lk, hm⟩ := g
  have z : zP s := ⟨by omega, hz⟩
  have hr : noZ s = s.extract 0 (s.size - 1) := if_pos z
  have rs : (noZ s).size = s.size - 1 := by rw [hr, size_ext s _ _ (by omega)]; omega
  have no := like_no46 lk (by rw [size_ext s _ _ (by omega)]) P19_no
  have hq : ptS (noZ s) = 19 := by
    refine pt_uniq (by omega) (fun j hj => ?_) (fun h => ?_)
    · have := no j (by omega)
      rw [bt_ext s 0 19 j (by omega) (by omega)] at this
      rw [hr, bt_ext s 0 _ j (by omega) (by omega)]
      exact this
    · rw [hr, bt_ext s 0 _ 19 (by omega) (by omega)]
      have := (hm (by omega)).1
      simpa using this
  have hh : hdP (noZ s) = s.extract 0 19 := by
    unfold hdP
    rw [hq, hr, ext_ext s _ _ (by omega) (by omega)]
  refine ⟨z, by rw [hh]; exact lk, fun hp => ?_, ?_⟩
  · have ht : tlP (noZ s) = s.extract 20 (s.size - 1) := by
      unfold tlP
      rw [if_pos hp, hq, rs, hr, ext_ext2 s _ _ (by omega)]
    rw [ht, size_ext s _ _ (by omega)]
    omega
  · by_cases hp : ptS (noZ s) < (noZ s).size
    · have ht : tlP (noZ s) = s.extract 20 (s.size - 1) := by
        unfold tlP
        rw [if_pos hp, hq, rs, hr, ext_ext2 s _ _ (by omega)]
      rw [ht]
      exact (numV_nn _).1 (hm (by omega)).2
    · have ht : tlP (noZ s) = ⟨#[]⟩ := if_neg hp
      rw [ht]
      exact fun c hc => absurd hc (by simp)
end Ap
end Go.Proofs.YtafeigpmldgifaaGreatDoor
/-
  The texts of times: Text of package moment and of the reference.
-/
namespace Go.Proofs.YtafeigpmldgifaaGreatDoor
namespace At
open Go.RowKit Lw Ap Go.Proofs.YtafeigpmldgifaaGreatDoor.Mp Go.Proofs.YtafeigpmldgifaaGreatDoor.Mw

/-- The last digits of a number, as a string. -/
def dS (n k : Nat) : ByteArray := ⟨(decL n k).toArray⟩
theorem dS_size (n k : Nat) : (dS n k).size = k := by
  have : (dS n k).size = (decL n k).length := by simp [dS, ByteArray.size]
  rw [this, decL_len]
theorem add_fact {a b c : ByteArray} (h : c = a ++ b) (hs : a.size + b.size ≤ 9223372036854775807) : ∀ w' : World, (Op.stringOp .add a b).run Tryz.prog w' = .ok (.string c) w' := fun w' => by
  rw [run_string_add_sum (P := Tryz.prog) (w := w') _ _ hs, h]
def baseS (Y M D H I S : Nat) : ByteArray := dS Y 4 ++ (⟨#[45]⟩ : ByteArray) ++ dS M 2 ++ (⟨#[45]⟩ : ByteArray) ++ dS D 2 ++ (⟨#[84]⟩ : ByteArray) ++ dS H 2 ++ (⟨#[58]⟩ : ByteArray) ++ dS I 2 ++ (⟨#[58]⟩ : ByteArray) ++ dS S 2
/-- The text of a time. -/
def textS (Y M D H I S U d : Nat) : ByteArray := (if 0 < d then baseS Y M D H I S ++ ((⟨#[46]⟩ : ByteArray) ++ (dS U 6).extract 0 d) else baseS Y M D H I S) ++ (⟨#[90]⟩ : ByteArray)
/-- What Text returns: the text, and the error. -/
def TextIs (t d : Int) (s : ByteArray) (c : Int) : Prop :=
  ((d < 0 ∨ 6 < d) ∧ s = ⟨#[]⟩ ∧ c = 2) ∨ (0 ≤ d ∧ d ≤ 6 ∧ (t < bgv (-10227) 1972 1 ∨ bgv 36525 2100 1 ≤ t) ∧ s = ⟨#[]⟩ ∧ c = 16) ∨
  (0 ≤ d ∧ d ≤ 6 ∧ bgv (-10227) 1972 1 ≤ t ∧ t < bgv 36525 2100 1 ∧ ∃ n y m z k, DayOf t n y m z k ∧ s = textS y.toNat m.toNat (n - mo y m + 1).toNat (mins (t - bgv n y m) / 60).toNat (mins (t - bgv n y m) % 60).toNat ((t - bgv n y m) / 1000000 - 60 * mins (t - bgv n y m)).toNat ((t - bgv n y m) % 1000000).toNat d.toNat ∧ c = 0)
theorem TextIs.uniq {t d : Int} {s s' : ByteArray} {c c' : Int} (a : TextIs t d s c) (b : TextIs t d s' c') : s = s' ∧ c = c' := by
  rcases a with ⟨a0, a1, a2⟩ | ⟨a0, a1, a2, a3, a4⟩ | ⟨a0, a1, a2, a3, n, y, m, z, k, a4, a5, a6⟩ <;> rcases b with ⟨b0, b1, b2⟩ | ⟨b0, b1, b2, b3, b4⟩ | ⟨b0, b1, b2, b3, n', y', m', z', k', b4, b5, b6⟩
  · exact ⟨by rw [a1, b1], by omega⟩
  · omega
  · omega
  · omega
  · exact ⟨by rw [a3, b3], by omega⟩
  · omega
  · omega
  · omega
  · obtain ⟨rfl, rfl, rfl, _, _⟩ := a4.uniq b4
    exact ⟨by rw [a5, b5], by omega⟩
def TextPost (t d : Int) (w : World) (e : Ending) (w' : World) : Prop := ∃ (s : ByteArray) (c : Int), e = .returned (.tuple #[.string s, .int .i64 c]) ∧ TextIs t d s c ∧ Below w.heap.size w w'
/-- The parts of a date, as naturals. -/
theorem date_nat {t n y m z k : Int} (h : DayOf t n y m z k) : ∃ Y M D H I S U : Nat, y = Y ∧ m = M ∧ n - mo y m + 1 = D ∧ mins (t - bgv n y m) / 60 = H ∧ mins (t - bgv n y m) % 60 = I ∧ (t - bgv n y m) / 1000000 - 60 * mins (t - bgv n y m) = S ∧ (t - bgv n y m) % 1000000 = U ∧
    Y < 10 ^ 4 ∧ M < 10 ^ 2 ∧ D < 10 ^ 2 ∧ H < 10 ^ 2 ∧ I < 10 ^ 2 ∧ S < 10 ^ 2 ∧ U < 10 ^ 6 := by
  obtain ⟨p1, p2⟩ := h.pass
  have y1 := h.y1
  have y2 := h.y2
  have m1 := h.ym.m1
  have m2 := h.ym.m12
  have ml := mo_bd2 h
  generalize t - bgv n y m = p at *
  generalize n - mo y m + 1 = dd at *
  have hm : 0 ≤ mins p ∧ mins p ≤ 1439 ∧ 60 * mins p ≤ p / 1000000 ∧ p / 1000000 - 60 * mins p ≤ 60 := by unfold mins; split <;> omega
  generalize mins p = q at *
  refine ⟨y.toNat, m.toNat, dd.toNat, (q / 60).toNat, (q % 60).toNat, (p / 1000000 - 60 * q).toNat, (p % 1000000).toNat, ?_⟩
  omega
/-- The date in its block, the table, and what was there before. -/
structure XS (w : World) (b : Nat) (w' : World) : Prop where
  lt : b < w'.heap.size
  tab : Tab w'
  below : Below w.heap.size w w'
theorem XS.call {w : World} {b : Nat} {a c : World} (h : XS w b a) (hb : Below a.heap.size a c) : XS w b c := ⟨Nat.lt_of_lt_of_le h.lt hb.size, h.tab.below hb, below_then h.below hb⟩
theorem XS.drew {w : World} {b : Nat} {a : World} (h : XS w b a) : XS w b a.drew := ⟨h.lt, h.tab, h.below.drew⟩
structure XSr (w : World) (b : Nat) (w' : World) : Prop where
  lt : b < w'.heap.size
  below : Below w.heap.size w w'
theorem XSr.drew {w : World} {b : Nat} {a : World} (h : XSr w b a) : XSr w b a.drew := ⟨h.lt, h.below.drew⟩
theorem app_left (a b c : ByteArray) : a ++ (b ++ c) ++ (⟨#[90]⟩ : ByteArray) = a ++ b ++ c ++ (⟨#[90]⟩ : ByteArray) := by rw [← ByteArray.append_assoc]
theorem pads_any (r d : Nat) (w : World) (hT : Tab w) (hd : 1 ≤ d) (hd2 : d ≤ 18) (h : r < 10 ^ d) :
    Calls Tryz.prog 54 #[.int .i64 r, .int .i64 d] w fun e w' => e = .returned (.string (dS r d)) ∧ Below w.heap.size w w' := padd_any r d w hT hd hd2 h
theorem digs_any (n k : Nat) (w : World) (hn : n < 10 ^ 6) (hk : k ≤ 6) :
    Calls Tryz.prog 91 #[.int .i64 n, .int .i64 k] w fun e w' => e = .returned (.string (dS n k)) ∧ w = w' := rdigs_any n k w (by omega) (by omega)
theorem digs2 (n : Nat) (w : World) (hn : n < 10 ^ 6) : Calls Tryz.prog 91 #[.int .i64 n, .int .i64 2] w fun e w' => e = .returned (.string (dS n 2)) ∧ w = w' := digs_any n 2 w hn (by omega)
theorem digs4 (n : Nat) (w : World) (hn : n < 10 ^ 6) : Calls Tryz.prog 91 #[.int .i64 n, .int .i64 4] w fun e w' => e = .returned (.string (dS n 4)) ∧ w = w' := digs_any n 4 w hn (by omega)
theorem text_frac {Y M D H I S U d : Nat} {A X Z : ByteArray} (hb : baseS Y M D H I S = A) (hd : 0 < d) (hx : X = (dS U 6).extract 0 d) (hz : Z = A ++ ((⟨#[46]⟩ : ByteArray) ++ X)) : Z ++ (⟨#[90]⟩ : ByteArray) = textS Y M D H I S U d := by
  unfold textS; rw [if_pos hd, hb, hz, hx]
theorem text_whole {Y M D H I S U d : Nat} {A : ByteArray} (hb : baseS Y M D H I S = A) (hd : ¬ 0 < d) : A ++ (⟨#[90]⟩ : ByteArray) = textS Y M D H I S U d := by
  unfold textS; rw [if_neg hd, hb]
theorem text_arg {t d : Int} (h : d < 0 ∨ 6 < d) : TextIs t d ⟨#[]⟩ 2 := Or.inl ⟨h, rfl, rfl⟩
end At
end Go.Proofs.YtafeigpmldgifaaGreatDoor
/-
  Plain arithmetic under math/bits.Div64: a quotient of two digits of 32 bits; no program in sight.
-/
namespace Go.Proofs.YtafeigpmldgifaaGreatDoor
namespace Dv

theorem q_mul (q y1 y0 : Nat) : q * (y1 * 4294967296 + y0) = q * y1 * 4294967296 + q * y0 := by rw [Nat.mul_add, Nat.mul_assoc]
/-- A guess of a digit that is not too small, with what the guess leaves of the first digits. -/
structure Dig (u y1 y0 x q r : Nat) : Prop where
  eq : u = q * y1 + r
  ge : (u * 4294967296 + x) / (y1 * 4294967296 + y0) ≤ q
theorem dig_start {u y1 y0 x : Nat} (h1 : 0 < y1) (hx : x < 4294967296) : Dig u y1 y0 x (u / y1) (u - u / y1 * y1) := by
  have e := Nat.div_mul_le_self u y1
  refine ⟨by omega, ?_⟩
  have h2 : (u * 4294967296 + x) / (y1 * 4294967296 + y0) ≤ (u * 4294967296 + x) / (4294967296 * y1) := Nat.div_le_div_left (by omega) (by omega)
  rw [← Nat.div_div_eq_div_mul] at h2
  have h3 : (u * 4294967296 + x) / 4294967296 = u := by omega
  rw [h3] at h2
  exact h2
theorem lin_lt {u P r x Z : Nat} (h : u = P + r) (hc : r * 4294967296 + x < Z) : u * 4294967296 + x < P * 4294967296 + Z := by
  rw [h, Nat.add_mul, Nat.add_assoc]; exact Nat.add_lt_add_left hc _
theorem lin_le {u P r x Z : Nat} (h : u = P + r) (hc : Z ≤ r * 4294967296 + x) : P * 4294967296 + Z ≤ u * 4294967296 + x := by omega
theorem lin_one {u x : Nat} (hx : x < 4294967296) : u * 4294967296 + x < (u + 1) * 4294967296 := by rw [Nat.add_mul]; omega
theorem lin_B {u Y x Z : Nat} (hu : u < Y) (hx : x < 4294967296) (h : Y * 4294967296 ≤ Z) : u * 4294967296 + x < Z :=
  Nat.lt_of_lt_of_le (lin_one hx) (Nat.le_trans (Nat.mul_le_mul_right _ hu) h)
theorem dig_step {u y1 y0 x q r : Nat} (h : Dig u y1 y0 x q r) (hu : u < y1 * 4294967296 + y0) (hx : x < 4294967296) (hc : 4294967296 ≤ q ∨ r * 4294967296 + x < q * y0) : 1 ≤ q ∧ Dig u y1 y0 x (q - 1) (r + y1) := by
  have hl : (u * 4294967296 + x) / (y1 * 4294967296 + y0) < q := by
    rw [Nat.div_lt_iff_lt_mul (by omega)]
    rcases hc with hc | hc
    · exact lin_B hu hx (by rw [Nat.mul_comm]; exact Nat.mul_le_mul_right (y1 * 4294967296 + y0) hc)
    · rw [q_mul]
      exact lin_lt h.eq hc
  have hq : 1 ≤ q := Nat.lt_of_le_of_lt (Nat.zero_le _) hl
  refine ⟨hq, ?_, Nat.le_sub_one_of_lt hl⟩
  obtain ⟨k, rfl⟩ : ∃ k, q = k + 1 := ⟨q - 1, by omega⟩
  have := h.eq
  rw [Nat.add_mul] at this
  simp only [Nat.add_sub_cancel]
  omega
theorem dig_end {u y1 y0 x q r : Nat} (h : Dig u y1 y0 x q r) (hY : 0 < y1 * 4294967296 + y0) (hc : q * y0 ≤ r * 4294967296 + x) : q = (u * 4294967296 + x) / (y1 * 4294967296 + y0) :=
  Nat.le_antisymm ((Nat.le_div_iff_mul_le hY).2 (by
    rw [q_mul]
    exact lin_le h.eq hc)) h.ge
theorem lin_brk {Z y0 r x : Nat} (h : Z ≤ y0 * 4294967296) (h0 : y0 < 4294967296) (hr : 4294967296 ≤ r) : Z ≤ r * 4294967296 + x :=
  Nat.le_trans h (Nat.le_trans (Nat.mul_le_mul_right _ (Nat.le_trans (Nat.le_of_lt h0) hr)) (Nat.le_add_right _ _))
theorem dig_break {q y0 r x : Nat} (hq : q ≤ 4294967296) (h0 : y0 < 4294967296) (hr : 4294967296 ≤ r) : q * y0 ≤ r * 4294967296 + x := by
  have h1 := Nat.mul_le_mul_right y0 hq
  rw [Nat.mul_comm 4294967296 y0] at h1
  exact lin_brk h1 h0 hr
theorem lin_two {u Y y1 y0 q : Nat} (hu : u < Y + y0) (h0 : y0 < 4294967296) (h1 : 2147483648 ≤ y1) (h : Y + 2 * y1 ≤ u) : q ≤ 4294967297 := by omega
theorem dig_bd {u y1 y0 q : Nat} (hu : u < y1 * 4294967296 + y0) (h0 : y0 < 4294967296) (h1 : 2147483648 ≤ y1) (hq : q * y1 ≤ u) : q ≤ 4294967297 := by
  rcases Nat.lt_or_ge 4294967297 q with h | h
  · have h2 := Nat.mul_le_mul_right y1 (show 4294967298 ≤ q from h)
    have h3 : 4294967298 * y1 = y1 * 4294967296 + 2 * y1 := by rw [Nat.mul_comm, ← Nat.mul_comm y1 2, ← Nat.mul_add]
    rw [h3] at h2
    exact lin_two hu h0 h1 (Nat.le_trans h2 hq)
  · exact h
theorem dig_bd0 {u y1 y0 : Nat} (hu : u < y1 * 4294967296 + y0) (h0 : y0 < 4294967296) (h1 : 2147483648 ≤ y1) : u / y1 ≤ 4294967297 := dig_bd hu h0 h1 (Nat.div_mul_le_self u y1)
theorem lin_dm {A r V x : Nat} (h : A + r = V) : V * 4294967296 + x = A * 4294967296 + (r * 4294967296 + x) := by omega
theorem lin_sh {A q L r : Nat} (h : 18446744073709551616 * q + r = L) : (A + q) * 18446744073709551616 + r = A * 18446744073709551616 + L := by omega
theorem lin_sz {A r Z : Nat} (h : A * 18446744073709551616 + r < Z * 18446744073709551616) : A < Z := by omega
theorem lin_64 {u L : Nat} : (u * 4294967296 + L % 18446744073709551616 / 4294967296) * 4294967296 + L % 18446744073709551616 % 4294967296 = u * 18446744073709551616 + L % 18446744073709551616 := by omega
theorem lin_hl {hi lo y : Nat} (hy : hi < y) (hl : lo < 18446744073709551616) : hi * 18446744073709551616 + lo < y * 18446744073709551616 := by omega
/-- Two digits, one behind the other. -/
theorem two_digits (V x0 Y : Nat) (hY : 0 < Y) :
    (V * 4294967296 + x0) / Y = V / Y * 4294967296 + (V % Y * 4294967296 + x0) / Y ∧ (V * 4294967296 + x0) % Y = (V % Y * 4294967296 + x0) % Y := by
  have e : V * 4294967296 + x0 = Y * (V / Y * 4294967296) + (V % Y * 4294967296 + x0) := by
    rw [← Nat.mul_assoc]
    exact lin_dm (Nat.div_add_mod V Y)
  rw [e]
  exact ⟨Nat.mul_add_div hY _ _, Nat.mul_add_mod _ _ _⟩
/-- What Div64 does with shifted numbers: P is the power of two of the shift, Q what is left of 2^64. -/
theorem div_shift (hi lo y P Q : Nat) (hP : P * Q = 18446744073709551616) (hy : hi < y) (hl : lo < 18446744073709551616) :
    (hi * P + lo / Q) * 18446744073709551616 + lo * P % 18446744073709551616 = (hi * 18446744073709551616 + lo) * P ∧ hi * P + lo / Q < y * P := by
  have hP0 : 0 < P := Nat.pos_of_ne_zero fun h => by subst h; simp at hP
  have hQ0 : 0 < Q := Nat.pos_of_ne_zero fun h => by subst h; simp at hP
  have e1 : lo * P / 18446744073709551616 = lo / Q := by rw [← hP, Nat.mul_comm P Q, Nat.mul_div_mul_right _ _ hP0]
  have e2 := Nat.div_add_mod (lo * P) 18446744073709551616
  rw [e1] at e2
  have e3 : (hi * P + lo / Q) * 18446744073709551616 + lo * P % 18446744073709551616 = (hi * 18446744073709551616 + lo) * P := by
    rw [Nat.add_mul (hi * 18446744073709551616) lo P, Nat.mul_right_comm]
    exact lin_sh e2
  refine ⟨e3, ?_⟩
  have h1 : (hi * 18446744073709551616 + lo) * P < y * 18446744073709551616 * P := Nat.mul_lt_mul_of_pos_right (lin_hl hy hl) hP0
  rw [← e3, Nat.mul_right_comm y] at h1
  exact lin_sz h1
theorem div_all (hi lo y P Q : Nat) (hP : P * Q = 18446744073709551616) (hy : hi < y) (hl : lo < 18446744073709551616) (u x1 x0 : Nat)
    (hu : u = hi * P + lo / Q) (h1 : x1 = lo * P % 18446744073709551616 / 4294967296) (h0 : x0 = lo * P % 18446744073709551616 % 4294967296) :
    (u * 4294967296 + x1) / (y * P) * 4294967296 + ((u * 4294967296 + x1) % (y * P) * 4294967296 + x0) / (y * P) = (hi * 18446744073709551616 + lo) / y ∧
    ((u * 4294967296 + x1) % (y * P) * 4294967296 + x0) % (y * P) / P = (hi * 18446744073709551616 + lo) % y := by
  obtain ⟨e, _⟩ := div_shift hi lo y P Q hP hy hl
  have hP0 : 0 < P := Nat.pos_of_ne_zero fun h => by subst h; simp at hP
  have hy0 : 0 < y := by omega
  have hY : 0 < y * P := Nat.mul_pos hy0 hP0
  obtain ⟨t1, t2⟩ := two_digits (u * 4294967296 + x1) x0 (y * P) hY
  have e2 : (u * 4294967296 + x1) * 4294967296 + x0 = (hi * 18446744073709551616 + lo) * P := by
    rw [← e, ← hu, h1, h0]
    exact lin_64
  rw [e2] at t1 t2
  rw [← t1, ← t2, Nat.mul_div_mul_right _ _ hP0, Nat.mul_mod_mul_right, Nat.mul_div_cancel _ hP0]
  exact ⟨rfl, rfl⟩
end Dv
end Go.Proofs.YtafeigpmldgifaaGreatDoor
/-
  The walk of math/bits.Div64.
-/
namespace Go.Proofs.YtafeigpmldgifaaGreatDoor
namespace Dv
open Go.RowKit Lw

theorem len_aux : ∀ f x : Nat, x < 2 ^ f → x < 2 ^ Lib.bitLenAux f x ∧ (0 < x → 1 ≤ Lib.bitLenAux f x ∧ 2 ^ (Lib.bitLenAux f x - 1) ≤ x) ∧ Lib.bitLenAux f x ≤ f
  | 0, x, h => ⟨by simpa [Lib.bitLenAux] using h, fun g => by simp at h; omega, by simp [Lib.bitLenAux]⟩
  | f + 1, x, h => by
    have ih := len_aux f (x / 2) (by rw [Nat.pow_succ] at h; omega)
    by_cases hx : x = 0
    · subst hx
      simp [Lib.bitLenAux]
    · have e : Lib.bitLenAux (f + 1) x = 1 + Lib.bitLenAux f (x / 2) := by
        show (if x = 0 then 0 else 1 + Lib.bitLenAux f (x / 2)) = _
        rw [if_neg hx]
      rw [e]
      by_cases hx2 : x / 2 = 0
      · have h1 : x = 1 := by omega
        have z : Lib.bitLenAux f 0 = 0 := by cases f <;> simp [Lib.bitLenAux]
        rw [hx2, z, h1]
        exact ⟨by decide, fun _ => ⟨by decide, by decide⟩, by omega⟩
      · obtain ⟨i1, i2, i3⟩ := ih
        obtain ⟨j1, j2⟩ := i2 (by omega)
        obtain ⟨m, hm⟩ : ∃ m, Lib.bitLenAux f (x / 2) = m + 1 := ⟨Lib.bitLenAux f (x / 2) - 1, by omega⟩
        rw [hm] at i1 i3 j2 ⊢
        rw [Nat.add_sub_cancel] at j2
        refine ⟨by rw [Nat.add_comm, Nat.pow_succ]; omega, fun _ => ⟨by omega, ?_⟩, by omega⟩
        rw [Nat.add_sub_cancel_left, Nat.pow_succ]
        omega
theorem bitLen_pos {y : Nat} (h : 0 < y) (h2 : y < 2 ^ 64) : 2 ^ (Lib.bitLen y - 1) ≤ y ∧ y < 2 ^ Lib.bitLen y ∧ 1 ≤ Lib.bitLen y ∧ Lib.bitLen y ≤ 64 := by
  obtain ⟨a, b, c⟩ := len_aux 64 y h2
  obtain ⟨b1, b2⟩ := b h
  exact ⟨b2, a, b1, c⟩
/-- The shift that moves a number's highest bit to the top. -/
theorem shift_ex {y : Nat} (h : 0 < y) (h2 : y < 18446744073709551616) : ∃ s P Q : Nat, s = 64 - Lib.bitLen y ∧ s ≤ 63 ∧ P = 2 ^ s ∧ Q = 2 ^ (64 - s) ∧ P * Q = 18446744073709551616 ∧ 9223372036854775808 ≤ y * P ∧ y * P < 18446744073709551616 ∧ Lib.bitLen y ≤ 64 := by
  obtain ⟨b1, b2, b3, b4⟩ := bitLen_pos h h2
  refine ⟨64 - Lib.bitLen y, _, _, rfl, by omega, rfl, rfl, ?_, ?_, ?_, b4⟩
  · rw [← Nat.pow_add, show 64 - Lib.bitLen y + (64 - (64 - Lib.bitLen y)) = 64 by omega]
  · have := Nat.mul_le_mul_right (2 ^ (64 - Lib.bitLen y)) b1
    rw [← Nat.pow_add, show Lib.bitLen y - 1 + (64 - Lib.bitLen y) = 63 by omega] at this
    exact this
  · have := Nat.mul_lt_mul_of_pos_right b2 (show 0 < 2 ^ (64 - Lib.bitLen y) from Nat.pow_pos (by omega))
    rw [← Nat.pow_add, show Lib.bitLen y + (64 - Lib.bitLen y) = 64 by omega] at this
    exact this
/-! ### The walk's numbers, as naturals -/
theorem w_id {a : Nat} (h : a < 18446744073709551616) : IntKind.u64.wrap (a : Int) = (a : Int) := by rw [IntKind.wrap_u64]; omega
theorem w_mod (a : Nat) : IntKind.u64.wrap (a : Int) = ((a % 18446744073709551616 : Nat) : Int) := by rw [IntKind.wrap_u64]; omega
theorem w_mul {a b c : Nat} (h : a * b % 18446744073709551616 = c) : IntKind.u64.wrap ((a : Int) * (b : Int)) = (c : Int) := by
  rw [show (a : Int) * (b : Int) = ((a * b : Nat) : Int) from (Int.natCast_mul a b).symm, w_mod, h]
theorem w_add {a b c : Nat} (h : (a + b) % 18446744073709551616 = c) : IntKind.u64.wrap ((a : Int) + (b : Int)) = (c : Int) := by
  rw [show (a : Int) + (b : Int) = ((a + b : Nat) : Int) from (Int.natCast_add a b).symm, w_mod, h]
theorem w_sub {a b c : Nat} (hb : b < 18446744073709551616) (h : (a + 18446744073709551616 - b) % 18446744073709551616 = c) : IntKind.u64.wrap ((a : Int) - (b : Int)) = (c : Int) := by
  rw [IntKind.wrap_u64]; omega
theorem w_div {a b c : Nat} (h : a / b = c) (hc : c < 18446744073709551616) : IntKind.u64.wrap ((a : Int).tdiv (b : Int)) = (c : Int) := by
  rw [Int.tdiv_eq_ediv_of_nonneg (by omega), show (a : Int) / (b : Int) = ((a / b : Nat) : Int) from (Int.natCast_ediv a b).symm, h, w_id hc]
theorem and_mask (a : Nat) (ha : a < 18446744073709551616) : bits .and .u64 (a : Int) 4294967295 = ((a % 4294967296 : Nat) : Int) := by
  have h := bits_and_u64_nat a 4294967295 ha (by omega)
  have e : a &&& 4294967295 = a % 4294967296 := Nat.and_two_pow_sub_one_eq_mod a 32
  rw [e] at h
  exact h
/-! ### The walk -/
theorem dig_test {a b x y0 Z T T2 : Nat} (hx : x < 4294967296) (hy : y0 < 4294967296) (hb : b < 4294967296) (eZ : Z = a * y0 % 18446744073709551616) (eT : T = 4294967296 * b % 18446744073709551616) (eT2 : T2 = (T + x) % 18446744073709551616) :
    a < 4294967296 → (T2 < Z ↔ b * 4294967296 + x < a * y0) ∧ Z < 18446744073709551616 := fun ha => by
  have h1 : a * y0 < 18446744073709551616 := Nat.lt_of_le_of_lt (Nat.mul_le_mul (show a ≤ 4294967295 by omega) (show y0 ≤ 4294967295 by omega)) (by decide)
  rw [Nat.mod_eq_of_lt h1] at eZ
  omega
set_option maxRecDepth 100000 in
set_option maxHeartbeats 16000000 in
theorem div_low (lo y : Nat) (w : World) (h1 : 0 < y) (h2 : lo < 18446744073709551616) (h3 : y < 18446744073709551616) :
    Calls Tryz.prog 57 #[.int .u64 0, .int .u64 lo, .int .u64 y] w fun e w' => e = .returned (.tuple #[.int .u64 ((lo / y : Nat) : Int), .int .u64 ((lo % y : Nat) : Int)]) ∧ Below w.heap.size w w' := by
  have i0 : ((y : Int) == 0) = false := beq_eq_false_iff_ne.2 (by omega)
  have i1 : ¬ (y : Int) ≤ 0 := by omega
  have n0 : ¬ (y : Int) = 0 := by omega
  have d1 : (lo : Int) / (y : Int) = ((lo / y : Nat) : Int) := (Int.natCast_ediv lo y).symm
  have d2 : (lo : Int) % (y : Int) = ((lo % y : Nat) : Int) := (Int.natCast_emod lo y).symm
  have d5 := Nat.div_le_self lo y
  have d6 := Nat.mod_le lo y
  have d3 : IntKind.u64.wrap ((lo : Int).tdiv (y : Int)) = ((lo / y : Nat) : Int) := w_div rfl (by omega)
  have d4 : IntKind.u64.wrap ((lo : Int).tmod (y : Int)) = ((lo % y : Nat) : Int) := by
    rw [Int.tmod_eq_emod_of_nonneg (by omega), d2, w_id (by omega)]
  generalize lo / y = A at *
  generalize lo % y = B at *
  go_enter Tryz.func57, Tryz.ntmps57
  go_wp2_with fail
  go_quiet (fail)
  go_wp2_with fail
  go_ret2
  exact ⟨by first | rfl | simp [*], drewN_below2 (Below.refl _ _) _⟩
set_option maxRecDepth 100000 in
set_option maxHeartbeats 16000000 in
theorem div_high (hi lo y : Nat) (w : World) (hz : 0 < hi) (h1 : hi < y) (h2 : lo < 18446744073709551616) (h3 : y < 18446744073709551616) :
    Calls Tryz.prog 57 #[.int .u64 hi, .int .u64 lo, .int .u64 y] w fun e w' => e = .returned (.tuple #[.int .u64 (((hi * 18446744073709551616 + lo) / y : Nat) : Int), .int .u64 (((hi * 18446744073709551616 + lo) % y : Nat) : Int)]) ∧ w = w' := by
  have i0 : ((y : Int) == 0) = false := beq_eq_false_iff_ne.2 (by omega)
  have i1 : ¬ (y : Int) ≤ (hi : Int) := by omega
  have i2 : ((hi : Int) == 0) = false := beq_eq_false_iff_ne.2 (by omega)
  obtain ⟨s, P, Q, es, s63, eP, eQ, hPQ, hY1, hY2, hbl⟩ := shift_ex (y := y) (by omega) h3
  have LZ := fun w' => Tryz.bits_LeadingZeros64 (y : Int) w' (by omega) (by omega)
  rw [show (64 - (Lib.bitLen (y : Int).toNat : Int)) = (s : Int) by simp; omega] at LZ
  replace LZ := Lib.hid LZ
  have rP : (2 : Int) ^ s = (P : Int) := by rw [eP]; simp
  have rQ : (2 : Int) ^ (64 - s) = (Q : Int) := by rw [eQ]; simp
  have P0 : 0 < P := Nat.pos_of_ne_zero fun h => by subst h; simp at hPQ
  have lq : lo / Q < P := Nat.div_lt_of_lt_mul (by rw [Nat.mul_comm, hPQ]; exact h2)
  have hh : hi * P < 18446744073709551616 := Nat.lt_trans (Nat.mul_lt_mul_of_pos_right h1 P0) hY2
  obtain ⟨ds, du⟩ := div_shift hi lo y P Q hPQ h1 h2
  obtain ⟨Y, eY⟩ : ∃ Y, Y = y * P := ⟨_, rfl⟩
  obtain ⟨H, eH⟩ : ∃ H, H = hi * P := ⟨_, rfl⟩
  obtain ⟨LQ, eLQ⟩ : ∃ LQ, LQ = lo / Q := ⟨_, rfl⟩
  obtain ⟨L, eL⟩ : ∃ L, L = lo * P % 18446744073709551616 := ⟨_, rfl⟩
  obtain ⟨u, eu⟩ : ∃ u, u = H + LQ := ⟨_, rfl⟩
  obtain ⟨y1, ey1⟩ : ∃ y1, y1 = Y / 4294967296 := ⟨_, rfl⟩
  obtain ⟨y0, ey0⟩ : ∃ y0, y0 = Y % 4294967296 := ⟨_, rfl⟩
  obtain ⟨x1, ex1⟩ : ∃ x1, x1 = L / 4294967296 := ⟨_, rfl⟩
  obtain ⟨x0, ex0⟩ : ∃ x0, x0 = L % 4294967296 := ⟨_, rfl⟩
  have da := div_all hi lo y P Q hPQ h1 h2 u x1 x0 (by rw [eu, eH, eLQ]) (by rw [ex1, eL]) (by rw [ex0, eL])
  rw [← eY] at da hY1 hY2 du
  rw [← eH, ← eLQ, ← eu] at du
  have L64 : L < 18446744073709551616 := by rw [eL]; exact Nat.mod_lt _ (by decide)
  have Ye : y1 * 4294967296 + y0 = Y := by rw [ey1, ey0, Nat.mul_comm]; exact Nat.div_add_mod _ _
  have y1l : 2147483648 ≤ y1 := by omega
  have y1u : y1 < 4294967296 := by omega
  have y0u : y0 < 4294967296 := by omega
  have f1 : IntKind.u64.wrap ((y : Int) * (P : Int)) = (Y : Int) := w_mul (by rw [← eY]; exact Nat.mod_eq_of_lt hY2)
  have f2 : (Y : Int) / 4294967296 = (y1 : Int) := by omega
  have f3 : bits .and .u64 (Y : Int) 4294967295 = (y0 : Int) := by rw [and_mask Y hY2, ey0]
  have f4 : IntKind.u64.wrap ((hi : Int) * (P : Int)) = (H : Int) := w_mul (by rw [← eH]; exact Nat.mod_eq_of_lt (by rw [eH]; exact hh))
  have f5 : (lo : Int) / (Q : Int) = (LQ : Int) := by rw [eLQ]; exact (Int.natCast_ediv lo Q).symm
  have f6 : bits .or .u64 (H : Int) (LQ : Int) = (u : Int) := by
    rw [bits_or_u64_nat H LQ (by rw [eH]; exact hh) (by omega), eu, eH, eP, Nat.mul_comm hi (2 ^ s)]
    congr 1
    exact (Nat.two_pow_add_eq_or_of_lt (by rw [← eP, eLQ]; exact lq) hi).symm
  have f7 : IntKind.u64.wrap ((lo : Int) * (P : Int)) = (L : Int) := w_mul eL.symm
  have f8 : (L : Int) / 4294967296 = (x1 : Int) := by omega
  have f9 : bits .and .u64 (L : Int) 4294967295 = (x0 : Int) := by rw [and_mask L L64, ex0]
  have HXx1 := Lib.hid (show x1 < 4294967296 by omega)
  have HXx0 := Lib.hid (show x0 < 4294967296 by omega)
  have uY : u < y1 * 4294967296 + y0 := by omega
  have u64 : u < 18446744073709551616 := by omega
  obtain ⟨a1, ea1⟩ : ∃ a1, a1 = u / y1 := ⟨_, rfl⟩
  obtain ⟨Z1, eZ1⟩ : ∃ Z1, Z1 = a1 * y1 := ⟨_, rfl⟩
  obtain ⟨r1, er1⟩ : ∃ r1, r1 = u - Z1 := ⟨_, rfl⟩
  have hZ1 : Z1 ≤ u := by rw [eZ1, ea1]; exact Nat.div_mul_le_self u y1
  have a1u : a1 ≤ 4294967297 := by rw [ea1]; exact dig_bd0 uY y0u y1l
  have n1 : ¬ (y1 : Int) = 0 := by omega
  have k1 : IntKind.u64.wrap (a1 : Int) = (a1 : Int) := w_id (by omega)
  have k2 : IntKind.u64.wrap (r1 : Int) = (r1 : Int) := w_id (by omega)
  have f10 : IntKind.u64.wrap ((u : Int).tdiv (y1 : Int)) = (a1 : Int) := w_div ea1.symm (by omega)
  have f10' : (u : Int) / (y1 : Int) = (a1 : Int) := by rw [ea1]; exact (Int.natCast_ediv u y1).symm
  have f11 : IntKind.u64.wrap ((a1 : Int) * (y1 : Int)) = (Z1 : Int) := w_mul (by rw [← eZ1]; exact Nat.mod_eq_of_lt (by omega))
  have f12 : IntKind.u64.wrap ((u : Int) - (Z1 : Int)) = (r1 : Int) := w_sub (by omega) (by omega)
  have f12' : (u : Int) - (Z1 : Int) = (r1 : Int) := by omega
  have S1 := Lib.hid (show Hid (Dig u y1 y0 x1 a1 r1) ∧ a1 ≤ 4294967297 ∧ r1 < 4294967296 from ⟨Lib.hid (by rw [er1, eZ1, ea1]; exact dig_start (by omega) HXx1.out), a1u, by
    have := Nat.mod_lt u (show 0 < y1 by omega)
    have e := Nat.div_add_mod u y1
    rw [Nat.mul_comm, ← ea1, ← eZ1] at e
    omega⟩)
  obtain ⟨q1, eq1⟩ : ∃ q1, q1 = (u * 4294967296 + x1) / (y1 * 4294967296 + y0) := ⟨_, rfl⟩
  obtain ⟨R1, eR1⟩ : ∃ R1, R1 = (u * 4294967296 + x1) % Y := ⟨_, rfl⟩
  have R1Y : R1 < y1 * 4294967296 + y0 := by rw [eR1, Ye]; exact Nat.mod_lt _ (by omega)
  obtain ⟨q0, eq0⟩ : ∃ q0, q0 = (R1 * 4294967296 + x0) / (y1 * 4294967296 + y0) := ⟨_, rfl⟩
  obtain ⟨R0, eR0⟩ : ∃ R0, R0 = (R1 * 4294967296 + x0) % Y := ⟨_, rfl⟩
  have R0Y : R0 < Y := by rw [eR0]; exact Nat.mod_lt _ (by omega)
  have dm1 : q1 * Y + R1 = u * 4294967296 + x1 := by rw [eq1, eR1, Ye, Nat.mul_comm]; exact Nat.div_add_mod _ _
  have dm0 : q0 * Y + R0 = R1 * 4294967296 + x0 := by rw [eq0, eR0, Ye, Nat.mul_comm]; exact Nat.div_add_mod _ _
  rw [← eR1, ← eR0] at da
  rw [Ye] at eq1 eq0
  rw [← eq1, ← eq0] at da
  rw [← Ye] at eq1 eq0
  have Eq1 := Lib.hid eq1
  have Eq0 := Lib.hid eq0
  obtain ⟨da1, da2⟩ := da
  have N64 : (hi * 18446744073709551616 + lo) / y < 18446744073709551616 := (Nat.div_lt_iff_lt_mul (by omega)).2 (by have hl := lin_hl h1 h2; rw [Nat.mul_comm y] at hl; exact hl)
  rw [← da1] at N64
  rw [← da1, ← da2]
  obtain ⟨U1, eU1⟩ : ∃ U1, U1 = u * 4294967296 % 18446744073709551616 := ⟨_, rfl⟩
  obtain ⟨U2, eU2⟩ : ∃ U2, U2 = (U1 + x1) % 18446744073709551616 := ⟨_, rfl⟩
  obtain ⟨Z2, eZ2⟩ : ∃ Z2, Z2 = q1 * Y % 18446744073709551616 := ⟨_, rfl⟩
  have e1 : IntKind.u64.wrap ((u : Int) * 4294967296) = (U1 : Int) := w_mul (b := 4294967296) eU1.symm
  have e2 : IntKind.u64.wrap ((U1 : Int) + (x1 : Int)) = (U2 : Int) := w_add eU2.symm
  have e3 : IntKind.u64.wrap ((q1 : Int) * (Y : Int)) = (Z2 : Int) := w_mul eZ2.symm
  have e4 : IntKind.u64.wrap ((U2 : Int) - (Z2 : Int)) = (R1 : Int) := w_sub (by omega) (by omega)
  obtain ⟨a2, ea2⟩ : ∃ a2, a2 = R1 / y1 := ⟨_, rfl⟩
  obtain ⟨Z3, eZ3⟩ : ∃ Z3, Z3 = a2 * y1 := ⟨_, rfl⟩
  obtain ⟨r2, er2⟩ : ∃ r2, r2 = R1 - Z3 := ⟨_, rfl⟩
  have hZ3 : Z3 ≤ R1 := by rw [eZ3, ea2]; exact Nat.div_mul_le_self R1 y1
  have a2u : a2 ≤ 4294967297 := by rw [ea2]; exact dig_bd0 R1Y y0u y1l
  have k3 : IntKind.u64.wrap (a2 : Int) = (a2 : Int) := w_id (by omega)
  have k4 : IntKind.u64.wrap (r2 : Int) = (r2 : Int) := w_id (by have := Ye; omega)
  have f13 : IntKind.u64.wrap ((R1 : Int).tdiv (y1 : Int)) = (a2 : Int) := w_div ea2.symm (by omega)
  have f13' : (R1 : Int) / (y1 : Int) = (a2 : Int) := by rw [ea2]; exact (Int.natCast_ediv R1 y1).symm
  have f14 : IntKind.u64.wrap ((a2 : Int) * (y1 : Int)) = (Z3 : Int) := w_mul (by rw [← eZ3]; exact Nat.mod_eq_of_lt (by omega))
  have f15 : IntKind.u64.wrap ((R1 : Int) - (Z3 : Int)) = (r2 : Int) := w_sub (by omega) (by omega)
  have f15' : (R1 : Int) - (Z3 : Int) = (r2 : Int) := by omega
  have S2 := Lib.hid (show Hid (Dig R1 y1 y0 x0 a2 r2) ∧ a2 ≤ 4294967297 ∧ r2 < 4294967296 from ⟨Lib.hid (by rw [er2, eZ3, ea2]; exact dig_start (by omega) HXx0.out), a2u, by
    have := Nat.mod_lt R1 (show 0 < y1 by omega)
    have e := Nat.div_add_mod R1 y1
    rw [Nat.mul_comm, ← ea2, ← eZ3] at e
    omega⟩)
  obtain ⟨K1, eK1⟩ : ∃ K1, K1 = q1 * 4294967296 := ⟨_, rfl⟩
  obtain ⟨K2, eK2⟩ : ∃ K2, K2 = R1 * 4294967296 % 18446744073709551616 := ⟨_, rfl⟩
  obtain ⟨K3, eK3⟩ : ∃ K3, K3 = (K2 + x0) % 18446744073709551616 := ⟨_, rfl⟩
  obtain ⟨Z4, eZ4⟩ : ∃ Z4, Z4 = q0 * Y % 18446744073709551616 := ⟨_, rfl⟩
  rw [← eK1] at N64 ⊢
  obtain ⟨V1, eV1⟩ : ∃ V1, V1 = K1 + q0 := ⟨_, rfl⟩
  obtain ⟨V0, eV0⟩ : ∃ V0, V0 = R0 / P := ⟨_, rfl⟩
  rw [← eV1] at N64 ⊢
  rw [← eV0]
  have e8 : IntKind.u64.wrap ((q1 : Int) * 4294967296) = (K1 : Int) := w_mul (b := 4294967296) (by rw [← eK1]; exact Nat.mod_eq_of_lt (by omega))
  have e9 : IntKind.u64.wrap ((K1 : Int) + (q0 : Int)) = (V1 : Int) := w_add (by rw [← eV1]; exact Nat.mod_eq_of_lt N64)
  have k5 : IntKind.u64.wrap (V1 : Int) = (V1 : Int) := w_id N64
  have e9' : (K1 : Int) + (q0 : Int) = (V1 : Int) := by omega
  have e10 : IntKind.u64.wrap ((R1 : Int) * 4294967296) = (K2 : Int) := w_mul (b := 4294967296) eK2.symm
  have e11 : IntKind.u64.wrap ((K2 : Int) + (x0 : Int)) = (K3 : Int) := w_add eK3.symm
  have e12 : IntKind.u64.wrap ((q0 : Int) * (Y : Int)) = (Z4 : Int) := w_mul eZ4.symm
  have e13 : IntKind.u64.wrap ((K3 : Int) - (Z4 : Int)) = (R0 : Int) := w_sub (by omega) (by omega)
  have e14 : (R0 : Int) / (P : Int) = (V0 : Int) := by rw [eV0]; exact (Int.natCast_ediv R0 P).symm
  have HY := Lib.hid (show y1 < 4294967296 ∧ y0 < 4294967296 ∧ u < y1 * 4294967296 + y0 ∧ 0 < y1 * 4294967296 + y0 by omega)
  have HR := Lib.hid R1Y
  have i3 : (s : Int) ≤ 63 := by omega
  have i4 : 0 ≤ (s : Int) := by omega
  clear es s63 eP eQ hPQ hY1 hY2 hbl P0 lq hh ds du eY eH eLQ eL eu ey1 ey0 ex1 ex0 da1 da2 L64 Ye y1l y1u y0u uY u64 ea1 eZ1 er1 hZ1 a1u eq1 eR1 R1Y eq0 eR0 R0Y dm1 dm0 N64 eU1 eU2 eZ2 ea2 eZ3 er2 hZ3 a2u eK1 eK2 eK3 eZ4 eV1 eV0 hz h1 h2 h3
  go_enter Tryz.func57, Tryz.ntmps57
  go_wp2_with fail
  refine (LZ.out _).mono ?_
  rintro e w1 ⟨rfl, rfl⟩
  go_wp2_with fail
  go_loop [15, 16] (fun vq vr => ∃ a b : Nat, vq = .int .u64 a ∧ vr = .int .u64 b ∧ Hid (Dig u y1 y0 x1 a b) ∧ a ≤ 4294967297 ∧ b < 4294967296) (fun vq _ => (intOf vq).toNat)
  case atStart => exact ⟨a1, r1, rfl, rfl, S1.out⟩
  case round =>
    obtain ⟨a, b, rfl, rfl, D, ha, hb⟩ := hrel
    obtain ⟨Z, eZ⟩ : ∃ Z, Z = a * y0 % 18446744073709551616 := ⟨_, rfl⟩
    obtain ⟨T, eT⟩ : ∃ T, T = 4294967296 * b % 18446744073709551616 := ⟨_, rfl⟩
    obtain ⟨T2, eT2⟩ : ∃ T2, T2 = (T + x1) % 18446744073709551616 := ⟨_, rfl⟩
    have m1 : IntKind.u64.wrap ((a : Int) * (y0 : Int)) = (Z : Int) := w_mul eZ.symm
    have m2 : IntKind.u64.wrap (4294967296 * (b : Int)) = (T : Int) := w_mul (a := 4294967296) eT.symm
    have m3 : IntKind.u64.wrap ((T : Int) + (x1 : Int)) = (T2 : Int) := w_add eT2.symm
    have VT := Lib.hid (dig_test HXx1.out HY.out.2.1 hb eZ eT eT2)
    clear eZ eT eT2
    by_cases hc : 4294967296 ≤ a ∨ b * 4294967296 + x1 < a * y0
    · obtain ⟨h1, D2⟩ := dig_step D.out HY.out.2.2.1 HXx1.out hc
      obtain ⟨b', eb⟩ : ∃ b', b' = b + y1 := ⟨_, rfl⟩
      rw [← eb] at D2
      have k1 : IntKind.u64.wrap (b' : Int) = (b' : Int) := w_id (by have := HY.out.1; omega)
      have g2 : IntKind.u64.wrap ((b : Int) + (y1 : Int)) = (b' : Int) := w_add (by rw [← eb]; exact Nat.mod_eq_of_lt (by have := HY.out.1; omega))
      have g3 : (b : Int) + (y1 : Int) = (b' : Int) := by omega
      have D3 := Lib.hid D2
      have ch : 4294967296 ≤ a ∨ (a < 4294967296 ∧ Z ≤ 18446744073709551615 ∧ T2 < Z) := by
        rcases Nat.lt_or_ge a 4294967296 with g | g
        · exact Or.inr ⟨g, by have := VT.out g; omega, by have := VT.out g; rcases hc with hc | hc <;> omega⟩
        · exact Or.inl g
      clear D2 hc D VT
      by_cases hbb : b' < 4294967296
      · obtain ⟨a', ea⟩ : ∃ a', a' = a - 1 := ⟨_, rfl⟩
        rw [← ea] at D3
        have g1 : IntKind.u64.wrap ((a : Int) - 1) = (a' : Int) := by rw [IntKind.wrap_u64]; omega
        have g4 : (a : Int) - 1 = (a' : Int) := by omega
        have k2 : IntKind.u64.wrap (a' : Int) = (a' : Int) := w_id (by omega)
        have A := Lib.hid (show a' ≤ 4294967297 ∧ a' < a by omega)
        have hb3 : ¬ (4294967296 : Int) ≤ (b' : Int) := by omega
        clear ea eb h1
        rcases ch with ch | ⟨ch, _, ch2⟩
        · have ch : (4294967296 : Int) ≤ (a : Int) := by omega
          go_wp2_with fail
          go_round
          case rel => exact ⟨a', b', rfl, rfl, D3, A.out.1, hbb⟩
          case measure => simp [intOf]; have := A.out.2; omega
        · have ch3 : ¬ (4294967296 : Int) ≤ (a : Int) := by omega
          have ch4 : (T2 : Int) < (Z : Int) := by omega
          clear ch ch2
          go_wp2_with fail
          go_round
          case rel => exact ⟨a', b', rfl, rfl, D3, A.out.1, hbb⟩
          case measure => simp [intOf]; have := A.out.2; omega
      · have eq := dig_end D3.out HY.out.2.2.2 (dig_break (by omega) HY.out.2.1 (by omega))
        have g1 : IntKind.u64.wrap ((a : Int) - 1) = (q1 : Int) := by rw [Eq1.out, ← eq, IntKind.wrap_u64]; omega
        have g4 : (a : Int) - 1 = (q1 : Int) := by rw [Eq1.out, ← eq]; omega
        have k2 : IntKind.u64.wrap (q1 : Int) = (q1 : Int) := w_id (by rw [Eq1.out, ← eq]; omega)
        have hb3 : (4294967296 : Int) ≤ (b' : Int) := by omega
        clear eb h1 D3 eq
        rcases ch with ch | ⟨ch, _, ch2⟩
        · have ch : (4294967296 : Int) ≤ (a : Int) := by omega
          go_wp2_with fail
          go_loop [18, 16] (fun vq vr => ∃ a b : Nat, vq = .int .u64 a ∧ vr = .int .u64 b ∧ Hid (Dig R1 y1 y0 x0 a b) ∧ a ≤ 4294967297 ∧ b < 4294967296) (fun vq _ => (intOf vq).toNat)
          case atStart => exact ⟨a2, r2, rfl, rfl, S2.out⟩
          case round =>
            obtain ⟨a, b, rfl, rfl, D, ha, hb⟩ := hrel
            obtain ⟨Z, eZ⟩ : ∃ Z, Z = a * y0 % 18446744073709551616 := ⟨_, rfl⟩
            obtain ⟨T, eT⟩ : ∃ T, T = 4294967296 * b % 18446744073709551616 := ⟨_, rfl⟩
            obtain ⟨T2, eT2⟩ : ∃ T2, T2 = (T + x0) % 18446744073709551616 := ⟨_, rfl⟩
            have m1 : IntKind.u64.wrap ((a : Int) * (y0 : Int)) = (Z : Int) := w_mul eZ.symm
            have m2 : IntKind.u64.wrap (4294967296 * (b : Int)) = (T : Int) := w_mul (a := 4294967296) eT.symm
            have m3 : IntKind.u64.wrap ((T : Int) + (x0 : Int)) = (T2 : Int) := w_add eT2.symm
            have VT := Lib.hid (dig_test HXx0.out HY.out.2.1 hb eZ eT eT2)
            clear eZ eT eT2
            by_cases hc : 4294967296 ≤ a ∨ b * 4294967296 + x0 < a * y0
            · obtain ⟨h1, D2⟩ := dig_step D.out HR.out HXx0.out hc
              obtain ⟨b', eb⟩ : ∃ b', b' = b + y1 := ⟨_, rfl⟩
              rw [← eb] at D2
              have k1 : IntKind.u64.wrap (b' : Int) = (b' : Int) := w_id (by have := HY.out.1; omega)
              have g2 : IntKind.u64.wrap ((b : Int) + (y1 : Int)) = (b' : Int) := w_add (by rw [← eb]; exact Nat.mod_eq_of_lt (by have := HY.out.1; omega))
              have g3 : (b : Int) + (y1 : Int) = (b' : Int) := by omega
              have D3 := Lib.hid D2
              have ch : 4294967296 ≤ a ∨ (a < 4294967296 ∧ Z ≤ 18446744073709551615 ∧ T2 < Z) := by
                rcases Nat.lt_or_ge a 4294967296 with g | g
                · exact Or.inr ⟨g, by have := VT.out g; omega, by have := VT.out g; rcases hc with hc | hc <;> omega⟩
                · exact Or.inl g
              clear D2 hc D VT
              by_cases hbb : b' < 4294967296
              · obtain ⟨a', ea⟩ : ∃ a', a' = a - 1 := ⟨_, rfl⟩
                rw [← ea] at D3
                have g1 : IntKind.u64.wrap ((a : Int) - 1) = (a' : Int) := by rw [IntKind.wrap_u64]; omega
                have g4 : (a : Int) - 1 = (a' : Int) := by omega
                have k2 : IntKind.u64.wrap (a' : Int) = (a' : Int) := w_id (by omega)
                have A := Lib.hid (show a' ≤ 4294967297 ∧ a' < a by omega)
                have hb3 : ¬ (4294967296 : Int) ≤ (b' : Int) := by omega
                clear ea eb h1
                rcases ch with ch | ⟨ch, _, ch2⟩
                · have ch : (4294967296 : Int) ≤ (a : Int) := by omega
                  go_wp2_with fail
                  go_round
                  case rel => exact ⟨a', b', rfl, rfl, D3, A.out.1, hbb⟩
                  case measure => simp [intOf]; have := A.out.2; omega
                · have ch3 : ¬ (4294967296 : Int) ≤ (a : Int) := by omega
                  have ch4 : (T2 : Int) < (Z : Int) := by omega
                  clear ch ch2
                  go_wp2_with fail
                  go_round
                  case rel => exact ⟨a', b', rfl, rfl, D3, A.out.1, hbb⟩
                  case measure => simp [intOf]; have := A.out.2; omega
              · have eq := dig_end D3.out HY.out.2.2.2 (dig_break (by omega) HY.out.2.1 (by omega))
                have g1 : IntKind.u64.wrap ((a : Int) - 1) = (q0 : Int) := by rw [Eq0.out, ← eq, IntKind.wrap_u64]; omega
                have g4 : (a : Int) - 1 = (q0 : Int) := by rw [Eq0.out, ← eq]; omega
                have k2 : IntKind.u64.wrap (q0 : Int) = (q0 : Int) := w_id (by rw [Eq0.out, ← eq]; omega)
                have hb3 : (4294967296 : Int) ≤ (b' : Int) := by omega
                clear eb h1 D3 eq
                rcases ch with ch | ⟨ch, _, ch2⟩
                · have ch : (4294967296 : Int) ≤ (a : Int) := by omega
                  go_wp2_with fail
                  go_ret2
                  exact ⟨rfl, rfl⟩
                · have ch3 : ¬ (4294967296 : Int) ≤ (a : Int) := by omega
                  have ch4 : (T2 : Int) < (Z : Int) := by omega
                  clear ch ch2
                  go_wp2_with fail
                  go_ret2
                  exact ⟨rfl, rfl⟩
            · have hlt : a < 4294967296 := by omega
              have eq := dig_end D.out HY.out.2.2.2 (by omega)
              rw [← Eq0.out] at eq
              subst eq
              have ch3 : ¬ (4294967296 : Int) ≤ (a : Int) := by omega
              have ch4 : ¬ (T2 : Int) < (Z : Int) := by have := VT.out hlt; omega
              clear hc hlt D VT
              go_wp2_with fail
              go_ret2
              exact ⟨rfl, rfl⟩
        · have ch3 : ¬ (4294967296 : Int) ≤ (a : Int) := by omega
          have ch4 : (T2 : Int) < (Z : Int) := by omega
          clear ch ch2
          go_wp2_with fail
          go_loop [18, 16] (fun vq vr => ∃ a b : Nat, vq = .int .u64 a ∧ vr = .int .u64 b ∧ Hid (Dig R1 y1 y0 x0 a b) ∧ a ≤ 4294967297 ∧ b < 4294967296) (fun vq _ => (intOf vq).toNat)
          case atStart => exact ⟨a2, r2, rfl, rfl, S2.out⟩
          case round =>
            obtain ⟨a, b, rfl, rfl, D, ha, hb⟩ := hrel
            obtain ⟨Z, eZ⟩ : ∃ Z, Z = a * y0 % 18446744073709551616 := ⟨_, rfl⟩
            obtain ⟨T, eT⟩ : ∃ T, T = 4294967296 * b % 18446744073709551616 := ⟨_, rfl⟩
            obtain ⟨T2, eT2⟩ : ∃ T2, T2 = (T + x0) % 18446744073709551616 := ⟨_, rfl⟩
            have m1 : IntKind.u64.wrap ((a : Int) * (y0 : Int)) = (Z : Int) := w_mul eZ.symm
            have m2 : IntKind.u64.wrap (4294967296 * (b : Int)) = (T : Int) := w_mul (a := 4294967296) eT.symm
            have m3 : IntKind.u64.wrap ((T : Int) + (x0 : Int)) = (T2 : Int) := w_add eT2.symm
            have VT := Lib.hid (dig_test HXx0.out HY.out.2.1 hb eZ eT eT2)
            clear eZ eT eT2
            by_cases hc : 4294967296 ≤ a ∨ b * 4294967296 + x0 < a * y0
            · obtain ⟨h1, D2⟩ := dig_step D.out HR.out HXx0.out hc
              obtain ⟨b', eb⟩ : ∃ b', b' = b + y1 := ⟨_, rfl⟩
              rw [← eb] at D2
              have k1 : IntKind.u64.wrap (b' : Int) = (b' : Int) := w_id (by have := HY.out.1; omega)
              have g2 : IntKind.u64.wrap ((b : Int) + (y1 : Int)) = (b' : Int) := w_add (by rw [← eb]; exact Nat.mod_eq_of_lt (by have := HY.out.1; omega))
              have g3 : (b : Int) + (y1 : Int) = (b' : Int) := by omega
              have D3 := Lib.hid D2
              have ch : 4294967296 ≤ a ∨ (a < 4294967296 ∧ Z ≤ 18446744073709551615 ∧ T2 < Z) := by
                rcases Nat.lt_or_ge a 4294967296 with g | g
                · exact Or.inr ⟨g, by have := VT.out g; omega, by have := VT.out g; rcases hc with hc | hc <;> omega⟩
                · exact Or.inl g
              clear D2 hc D VT
              by_cases hbb : b' < 4294967296
              · obtain ⟨a', ea⟩ : ∃ a', a' = a - 1 := ⟨_, rfl⟩
                rw [← ea] at D3
                have g1 : IntKind.u64.wrap ((a : Int) - 1) = (a' : Int) := by rw [IntKind.wrap_u64]; omega
                have g4 : (a : Int) - 1 = (a' : Int) := by omega
                have k2 : IntKind.u64.wrap (a' : Int) = (a' : Int) := w_id (by omega)
                have A := Lib.hid (show a' ≤ 4294967297 ∧ a' < a by omega)
                have hb3 : ¬ (4294967296 : Int) ≤ (b' : Int) := by omega
                clear ea eb h1
                rcases ch with ch | ⟨ch, _, ch2⟩
                · have ch : (4294967296 : Int) ≤ (a : Int) := by omega
                  go_wp2_with fail
                  go_round
                  case rel => exact ⟨a', b', rfl, rfl, D3, A.out.1, hbb⟩
                  case measure => simp [intOf]; have := A.out.2; omega
                · have ch3 : ¬ (4294967296 : Int) ≤ (a : Int) := by omega
                  have ch4 : (T2 : Int) < (Z : Int) := by omega
                  clear ch ch2
                  go_wp2_with fail
                  go_round
                  case rel => exact ⟨a', b', rfl, rfl, D3, A.out.1, hbb⟩
                  case measure => simp [intOf]; have := A.out.2; omega
              · have eq := dig_end D3.out HY.out.2.2.2 (dig_break (by omega) HY.out.2.1 (by omega))
                have g1 : IntKind.u64.wrap ((a : Int) - 1) = (q0 : Int) := by rw [Eq0.out, ← eq, IntKind.wrap_u64]; omega
                have g4 : (a : Int) - 1 = (q0 : Int) := by rw [Eq0.out, ← eq]; omega
                have k2 : IntKind.u64.wrap (q0 : Int) = (q0 : Int) := w_id (by rw [Eq0.out, ← eq]; omega)
                have hb3 : (4294967296 : Int) ≤ (b' : Int) := by omega
                clear eb h1 D3 eq
                rcases ch with ch | ⟨ch, _, ch2⟩
                · have ch : (4294967296 : Int) ≤ (a : Int) := by omega
                  go_wp2_with fail
                  go_ret2
                  exact ⟨rfl, rfl⟩
                · have ch3 : ¬ (4294967296 : Int) ≤ (a : Int) := by omega
                  have ch4 : (T2 : Int) < (Z : Int) := by omega
                  clear ch ch2
                  go_wp2_with fail
                  go_ret2
                  exact ⟨rfl, rfl⟩
            · have hlt : a < 4294967296 := by omega
              have eq := dig_end D.out HY.out.2.2.2 (by omega)
              rw [← Eq0.out] at eq
              subst eq
              have ch3 : ¬ (4294967296 : Int) ≤ (a : Int) := by omega
              have ch4 : ¬ (T2 : Int) < (Z : Int) := by have := VT.out hlt; omega
              clear hc hlt D VT
              go_wp2_with fail
              go_ret2
              exact ⟨rfl, rfl⟩
    · have hlt : a < 4294967296 := by omega
      have eq := dig_end D.out HY.out.2.2.2 (by omega)
      rw [← Eq1.out] at eq
      subst eq
      have ch3 : ¬ (4294967296 : Int) ≤ (a : Int) := by omega
      have ch4 : ¬ (T2 : Int) < (Z : Int) := by have := VT.out hlt; omega
      clear hc hlt D VT
      go_wp2_with fail
      go_loop [18, 16] (fun vq vr => ∃ a b : Nat, vq = .int .u64 a ∧ vr = .int .u64 b ∧ Hid (Dig R1 y1 y0 x0 a b) ∧ a ≤ 4294967297 ∧ b < 4294967296) (fun vq _ => (intOf vq).toNat)
      case atStart => exact ⟨a2, r2, rfl, rfl, S2.out⟩
      case round =>
        obtain ⟨a, b, rfl, rfl, D, ha, hb⟩ := hrel
        obtain ⟨Z, eZ⟩ : ∃ Z, Z = a * y0 % 18446744073709551616 := ⟨_, rfl⟩
        obtain ⟨T, eT⟩ : ∃ T, T = 4294967296 * b % 18446744073709551616 := ⟨_, rfl⟩
        obtain ⟨T2, eT2⟩ : ∃ T2, T2 = (T + x0) % 18446744073709551616 := ⟨_, rfl⟩
        have m1 : IntKind.u64.wrap ((a : Int) * (y0 : Int)) = (Z : Int) := w_mul eZ.symm
        have m2 : IntKind.u64.wrap (4294967296 * (b : Int)) = (T : Int) := w_mul (a := 4294967296) eT.symm
        have m3 : IntKind.u64.wrap ((T : Int) + (x0 : Int)) = (T2 : Int) := w_add eT2.symm
        have VT := Lib.hid (dig_test HXx0.out HY.out.2.1 hb eZ eT eT2)
        clear eZ eT eT2
        by_cases hc : 4294967296 ≤ a ∨ b * 4294967296 + x0 < a * y0
        · obtain ⟨h1, D2⟩ := dig_step D.out HR.out HXx0.out hc
          obtain ⟨b', eb⟩ : ∃ b', b' = b + y1 := ⟨_, rfl⟩
          rw [← eb] at D2
          have k1 : IntKind.u64.wrap (b' : Int) = (b' : Int) := w_id (by have := HY.out.1; omega)
          have g2 : IntKind.u64.wrap ((b : Int) + (y1 : Int)) = (b' : Int) := w_add (by rw [← eb]; exact Nat.mod_eq_of_lt (by have := HY.out.1; omega))
          have g3 : (b : Int) + (y1 : Int) = (b' : Int) := by omega
          have D3 := Lib.hid D2
          have ch : 4294967296 ≤ a ∨ (a < 4294967296 ∧ Z ≤ 18446744073709551615 ∧ T2 < Z) := by
            rcases Nat.lt_or_ge a 4294967296 with g | g
            · exact Or.inr ⟨g, by have := VT.out g; omega, by have := VT.out g; rcases hc with hc | hc <;> omega⟩
            · exact Or.inl g
          clear D2 hc D VT
          by_cases hbb : b' < 4294967296
          · obtain ⟨a', ea⟩ : ∃ a', a' = a - 1 := ⟨_, rfl⟩
            rw [← ea] at D3
            have g1 : IntKind.u64.wrap ((a : Int) - 1) = (a' : Int) := by rw [IntKind.wrap_u64]; omega
            have g4 : (a : Int) - 1 = (a' : Int) := by omega
            have k2 : IntKind.u64.wrap (a' : Int) = (a' : Int) := w_id (by omega)
            have A := Lib.hid (show a' ≤ 4294967297 ∧ a' < a by omega)
            have hb3 : ¬ (4294967296 : Int) ≤ (b' : Int) := by omega
            clear ea eb h1
            rcases ch with ch | ⟨ch, _, ch2⟩
            · have ch : (4294967296 : Int) ≤ (a : Int) := by omega
              go_wp2_with fail
              go_round
              case rel => exact ⟨a', b', rfl, rfl, D3, A.out.1, hbb⟩
              case measure => simp [intOf]; have := A.out.2; omega
            · have ch3 : ¬ (4294967296 : Int) ≤ (a : Int) := by omega
              have ch4 : (T2 : Int) < (Z : Int) := by omega
              clear ch ch2
              go_wp2_with fail
              go_round
              case rel => exact ⟨a', b', rfl, rfl, D3, A.out.1, hbb⟩
              case measure => simp [intOf]; have := A.out.2; omega
          · have eq := dig_end D3.out HY.out.2.2.2 (dig_break (by omega) HY.out.2.1 (by omega))
            have g1 : IntKind.u64.wrap ((a : Int) - 1) = (q0 : Int) := by rw [Eq0.out, ← eq, IntKind.wrap_u64]; omega
            have g4 : (a : Int) - 1 = (q0 : Int) := by rw [Eq0.out, ← eq]; omega
            have k2 : IntKind.u64.wrap (q0 : Int) = (q0 : Int) := w_id (by rw [Eq0.out, ← eq]; omega)
            have hb3 : (4294967296 : Int) ≤ (b' : Int) := by omega
            clear eb h1 D3 eq
            rcases ch with ch | ⟨ch, _, ch2⟩
            · have ch : (4294967296 : Int) ≤ (a : Int) := by omega
              go_wp2_with fail
              go_ret2
              exact ⟨rfl, rfl⟩
            · have ch3 : ¬ (4294967296 : Int) ≤ (a : Int) := by omega
              have ch4 : (T2 : Int) < (Z : Int) := by omega
              clear ch ch2
              go_wp2_with fail
              go_ret2
              exact ⟨rfl, rfl⟩
        · have hlt : a < 4294967296 := by omega
          have eq := dig_end D.out HY.out.2.2.2 (by omega)
          rw [← Eq0.out] at eq
          subst eq
          have ch3 : ¬ (4294967296 : Int) ≤ (a : Int) := by omega
          have ch4 : ¬ (T2 : Int) < (Z : Int) := by have := VT.out hlt; omega
          clear hc hlt D VT
          go_wp2_with fail
          go_ret2
          exact ⟨rfl, rfl⟩
/-- math/bits.Div64: the quotient and the remainder of a number of two words. -/
theorem div_any (hi lo y : Nat) (w : World) (h1 : hi < y) (h2 : lo < 18446744073709551616) (h3 : y < 18446744073709551616) :
    Calls Tryz.prog 57 #[.int .u64 hi, .int .u64 lo, .int .u64 y] w fun e w' => e = .returned (.tuple #[.int .u64 (((hi * 18446744073709551616 + lo) / y : Nat) : Int), .int .u64 (((hi * 18446744073709551616 + lo) % y : Nat) : Int)]) ∧ Below w.heap.size w w' := by
  rcases Nat.eq_zero_or_pos hi with h | h
  · subst h
    rw [Nat.zero_mul, Nat.zero_add]
    exact div_low lo y w (by omega) h2 h3
  · exact (div_high hi lo y w h h1 h2 h3).mono fun _ _ g => ⟨g.1, by rw [← g.2]; exact Below.refl _ _⟩
end Dv
end Go.Proofs.YtafeigpmldgifaaGreatDoor
/-
  The walk of part of the reference: a product divided, rounded down.
-/
namespace Go.Proofs.YtafeigpmldgifaaGreatDoor
namespace Dv
open Go.RowKit Lw

/-- The product in two words, and what Div64 makes of it, with plain names. -/
theorem mul_div (x y c : Nat) (hx : x < 18446744073709551616) (hy : y < 18446744073709551616) (hc : c < 18446744073709551616) (h : x * y < c * 18446744073709551616) : ∃ H L : Nat,
    (∀ w, Calls Tryz.prog 55 #[.int .u64 x, .int .u64 y] w fun e w' => e = .returned (.tuple #[.int .u64 (H : Int), .int .u64 (L : Int)]) ∧ w' = w) ∧
    (∀ w, Calls Tryz.prog 57 #[.int .u64 (H : Int), .int .u64 (L : Int), .int .u64 c] w fun e w' => e = .returned (.tuple #[.int .u64 ((x * y / c : Nat) : Int), .int .u64 ((x * y % c : Nat) : Int)]) ∧ Below w.heap.size w w') := by
  refine ⟨x * y / 18446744073709551616, x * y % 18446744073709551616, fun w => Tryz.bits_Mul64 x y hx hy w, fun w => ?_⟩
  have := div_any (x * y / 18446744073709551616) (x * y % 18446744073709551616) c w (Nat.div_lt_of_lt_mul (by rw [Nat.mul_comm 18446744073709551616 c]; exact h)) (Nat.mod_lt _ (by decide)) hc
  rw [show x * y / 18446744073709551616 * 18446744073709551616 + x * y % 18446744073709551616 = x * y from by rw [Nat.mul_comm _ 18446744073709551616]; exact Nat.div_add_mod _ _] at this
  exact this
set_option maxRecDepth 100000 in
set_option maxHeartbeats 4000000 in
theorem part_any (a b c : Nat) (w : World) (ha : a ≤ 9223372036854775807) (hb : b ≤ 9223372036854775807) (hc : c ≤ 9223372036854775807) (h : a * b < c * 18446744073709551616) (hq : a * b / c ≤ 9223372036854775807) :
    Calls Tryz.prog 92 #[.int .i64 a, .int .i64 b, .int .i64 c] w fun e w' => e = .returned (.tuple #[.int .i64 ((a * b / c : Nat) : Int), .bool (decide (0 < a * b % c))]) ∧ Below w.heap.size w w' := by
  obtain ⟨H, L, hM, hD⟩ := mul_div a b c (by omega) (by omega) (by omega) h
  have hr : a * b % c < 9223372036854775808 := Nat.lt_of_le_of_lt (Nat.le_of_lt (Nat.mod_lt _ (Nat.pos_of_ne_zero fun e => by subst e; simp at h))) (by omega)
  generalize a * b / c = q at *
  generalize a * b % c = r at *
  have HM := Lib.hid hM
  have HD := Lib.hid hD
  clear hM hD h
  go_enter Tryz.func92, Tryz.ntmps92
  go_wp2_with fail
  refine (HM.out _).mono ?_
  rintro e w1 ⟨rfl, rfl⟩
  go_wp2_with fail
  refine (HD.out _).mono ?_
  rintro e w2 ⟨rfl, hb2⟩
  go_wp2_with fail
  go_ret2
  exact ⟨rfl, hb2⟩
end Dv
end Go.Proofs.YtafeigpmldgifaaGreatDoor
/-
  The day texts of times: Day of package moment.
-/
namespace Go.Proofs.YtafeigpmldgifaaGreatDoor
namespace At
open Go.RowKit Lw Ap Go.Proofs.YtafeigpmldgifaaGreatDoor.Mp Go.Proofs.YtafeigpmldgifaaGreatDoor.Mw

def dbS (Y M D : Nat) : ByteArray := dS Y 4 ++ (⟨#[32]⟩ : ByteArray) ++ dS M 2 ++ (⟨#[32]⟩ : ByteArray) ++ dS D 2
def daytS (Y M D q d : Nat) : ByteArray := if 0 < d then dbS Y M D ++ ((⟨#[46]⟩ : ByteArray) ++ dS q d) else dbS Y M D
/-- The digits of the part of a day. -/
def fracQ (p L : Int) (d : Nat) : Nat := p.toNat * 10 ^ d / L.toNat
/-- What Day returns: the text, and the error. -/
def DayIs (t d : Int) (s : ByteArray) (c : Int) : Prop :=
  ((d < 0 ∨ 9 < d) ∧ s = ⟨#[]⟩ ∧ c = 2) ∨ (0 ≤ d ∧ d ≤ 9 ∧ (t < bgv (-10227) 1972 1 ∨ bgv 36525 2100 1 ≤ t) ∧ s = ⟨#[]⟩ ∧ c = 16) ∨
  (0 ≤ d ∧ d ≤ 9 ∧ bgv (-10227) 1972 1 ≤ t ∧ t < bgv 36525 2100 1 ∧ ∃ n y m z k, DayOf t n y m z k ∧ s = daytS y.toNat m.toNat (n - mo y m + 1).toNat (fracQ (t - bgv n y m) (bgv (n + 1) z k - bgv n y m) d.toNat) d.toNat ∧ c = 0)
theorem DayIs.uniq {t d : Int} {s s' : ByteArray} {c c' : Int} (a : DayIs t d s c) (b : DayIs t d s' c') : s = s' ∧ c = c' := by
  rcases a with ⟨a0, a1, a2⟩ | ⟨a0, a1, a2, a3, a4⟩ | ⟨a0, a1, a2, a3, n, y, m, z, k, a4, a5, a6⟩ <;> rcases b with ⟨b0, b1, b2⟩ | ⟨b0, b1, b2, b3, b4⟩ | ⟨b0, b1, b2, b3, n', y', m', z', k', b4, b5, b6⟩
  · exact ⟨by rw [a1, b1], by omega⟩
  · omega
  · omega
  · omega
  · exact ⟨by rw [a3, b3], by omega⟩
  · omega
  · omega
  · omega
  · obtain ⟨rfl, rfl, rfl, rfl, rfl⟩ := a4.uniq b4
    exact ⟨by rw [a5, b5], by omega⟩
def DayPost (t d : Int) (w : World) (e : Ending) (w' : World) : Prop := ∃ (s : ByteArray) (c : Int), e = .returned (.tuple #[.string s, .int .i64 c]) ∧ DayIs t d s c ∧ Below w.heap.size w w'
theorem zk_bd {t n y m z k : Int} (h : DayOf t n y m z k) : 1971 ≤ z ∧ z ≤ 2100 := by
  have a1 := h.y1
  have a2 := h.y2
  have a3 := h.ym.m1
  have a4 := h.ym.m12
  have a5 := h.zk.m1
  have a6 := h.zk.m12
  rcases next_ym h.ym h.zk with ⟨r1, _, _⟩ | ⟨r1, _⟩ <;> omega
/-- The part of the day that has passed, and the day's length, as naturals. -/
theorem part_nat {t n y m z k : Int} (h : DayOf t n y m z k) (d : Nat) (hd : d ≤ 9) : ∃ P L T : Nat, t - bgv n y m = P ∧ bgv (n + 1) z k - bgv n y m = L ∧ T = 10 ^ d ∧ P < L ∧ L ≤ 86401000000 ∧ 1 ≤ T ∧ T ≤ 1000000000 ∧ fracQ (t - bgv n y m) (bgv (n + 1) z k - bgv n y m) d = P * T / L ∧ P * T < L * 18446744073709551616 ∧ P * T / L < 10 ^ d ∧ P * T / L ≤ 1000000000 ∧
    L = (if n - mo y m + 1 = mo y (m + 1) - mo y m ∧ lps (12 * y + m) = lps (12 * y + m - 1) + 1 then 86401000000 else 86400000000) := by
  obtain ⟨p1, p2⟩ := h.pass
  have hi := h.hi
  have hw : wholeP y m (n - mo y m + 1) := ⟨h.y1, by have := h.y2; omega, h.ym.m1, h.ym.m12, by have := h.ym.lo; omega, by have := h.ym.hi; omega⟩
  have en : dn y m (n - mo y m + 1) = n := by rw [dn_mo]; omega
  have dl := day_len (z := z) (k := k) hw (by rw [en]; exact h.zk)
  rw [en] at dl
  obtain ⟨P, eP⟩ : ∃ P : Nat, t - bgv n y m = P := ⟨(t - bgv n y m).toNat, by omega⟩
  obtain ⟨L, eL⟩ : ∃ L : Nat, bgv (n + 1) z k - bgv n y m = L := ⟨(bgv (n + 1) z k - bgv n y m).toNat, by omega⟩
  have hPL : P < L := by omega
  have hL : L ≤ 86401000000 := by rcases dl with ⟨a, _⟩ | ⟨a, _⟩ <;> omega
  have T1 : 1 ≤ 10 ^ d := Nat.pow_pos (by omega)
  have T9 : 10 ^ d ≤ 1000000000 := by
    have h9 : ∀ r : Nat, r ≤ 9 → 10 ^ r ≤ 1000000000 := by decide
    exact h9 d hd
  have q1 : P * 10 ^ d / L < 10 ^ d := Nat.div_lt_of_lt_mul (Nat.mul_lt_mul_of_pos_right hPL T1)
  refine ⟨P, L, 10 ^ d, eP, eL, rfl, hPL, hL, T1, T9, ?_, ?_, q1, by omega, ?_⟩
  · unfold fracQ
    rw [eP, eL]
    rfl
  · exact Nat.lt_of_lt_of_le (Nat.mul_lt_mul_of_pos_right hPL T1) (Nat.mul_le_mul_left _ (by omega))
  · rcases dl with ⟨a, b⟩ | ⟨a, b⟩
    · unfold leapday at b
      rw [if_neg b]; omega
    · unfold leapday at b
      rw [if_pos b]; omega
set_option maxRecDepth 100000 in
set_option maxHeartbeats 4000000 in
theorem sday_bad (t d : Int) (w : World) (h : d < 0 ∨ 9 < d) :
    Calls Tryz.prog 31 #[.int .i64 t, .int .i64 d] w (DayPost t d w) := by
  have N := Lib.hid (show DayIs t d ⟨#[]⟩ 2 from Or.inl ⟨h, rfl, rfl⟩)
  rcases h with h | h
  all_goals
    go_enter Tryz.func31, Tryz.ntmps31
    go_wp2_with fail
    go_ret2
    exact ⟨⟨#[]⟩, 2, rfl, N.out, Below.refl _ _⟩
set_option maxRecDepth 100000 in
set_option maxHeartbeats 4000000 in
theorem sday_out (t : Int) (d : Nat) (w : World) (hd : d ≤ 9) (h0 : -9223372036854775808 ≤ t) (h1 : t ≤ 9223372036854775807) (h : t < bgv (-10227) 1972 1 ∨ bgv 36525 2100 1 ≤ t) :
    Calls Tryz.prog 31 #[.int .i64 t, .int .i64 d] w (DayPost t d w) := by
  have N := Lib.hid (show DayIs t d ⟨#[]⟩ 16 from Or.inr (Or.inl ⟨by omega, by omega, h, rfl, rfl⟩))
  have TU := Lib.hid (fun w' => day_out t w' h0 h1 h)
  have i0 : ¬ (d : Int) < 0 := by omega
  have i1 : ¬ 9 < (d : Int) := by omega
  clear h
  go_enter Tryz.func31, Tryz.ntmps31
  go_wp2_with fail
  refine (TU.out _).mono ?_
  rintro e w1 ⟨rfl, hb⟩
  go_wp2_with fail
  go_ret2
  exact ⟨⟨#[]⟩, 16, rfl, N.out, hb⟩
set_option maxRecDepth 100000 in
set_option maxHeartbeats 8000000 in
theorem sday_in (t n y m z k : Int) (d : Nat) (w : World) (hd : d ≤ 9) (hT : Tab w) (h : DayOf t n y m z k) (h1 : bgv (-10227) 1972 1 ≤ t) (h2 : t < bgv 36525 2100 1) :
    Calls Tryz.prog 31 #[.int .i64 t, .int .i64 d] w (DayPost t d w) := by
  obtain ⟨Y, M, D, _, _, _, _, e1, e2, e3, -, -, -, -, b1, b2, b3, -, -, -, -⟩ := date_nat h
  obtain ⟨P, L, T, eP, eL, eT, hPL, hL, T1, T9, eQ, PQ, q1, q2, -⟩ := part_nat h d hd
  obtain ⟨y1, y2⟩ : 1971 ≤ y ∧ y ≤ 2100 := ⟨by have := h.y1; omega, by have := h.y2; omega⟩
  obtain ⟨zb1, zb2⟩ := zk_bd h
  have n1 := h.n1
  have n2 := h.n2
  have rg := h.ym.range y1 y2
  have rg2 := h.zk.range zb1 zb2
  have bd := bgv_bd n y m rg.1 rg.2
  have bd2 := bgv_bd (n + 1) z k rg2.1 rg2.2
  have TI : ∀ s, s = daytS Y M D (P * T / L) d → DayIs t d s 0 := fun s hs => Or.inr (Or.inr ⟨by omega, by omega, h1, h2, n, y, m, z, k, h, by rw [Int.toNat_natCast, e1, e2, ← e1, ← e2, e3, eQ]; rw [e1, e2]; simpa using hs, rfl⟩)
  have TU := fun w' => day_in t n y m z k w' h (Int.not_lt.2 h1) (Int.not_le.2 h2)
  have CA := fun w' => calendar_any n y m w' h.ym y1 y2
  have BE := Lib.hid (fun w' => begin_any (n + 1) z k w' h.zk zb1 zb2)
  have BG := Lib.hid (fun w' => begin_any n y m w' h.ym y1 y2)
  have TE : Hid (∀ w', Calls Tryz.prog 56 #[.int .i64 d] w' fun e w'' => e = .returned (.int .u64 (T : Int)) ∧ w' = w'') := Lib.hid fun w' => by rw [eT]; exact ten_any d w' (by omega)
  obtain ⟨H, L0, hM, hD⟩ := Dv.mul_div P T L (by omega) (by omega) (by omega) PQ
  rw [eP] at TU
  rw [e3] at CA
  rw [e1, e2] at CA
  have PY := Lib.hid (fun w' ht => pads_any Y 4 w' ht (by omega) (by omega) b1)
  have PM := Lib.hid (fun w' ht => pads_any M 2 w' ht (by omega) (by omega) b2)
  have PD := Lib.hid (fun w' ht => pads_any D 2 w' ht (by omega) (by omega) b3)
  have PF := Lib.hid (fun w' ht (hd1 : 1 ≤ d) => pads_any (P * T / L) d w' ht hd1 (by omega) q1)
  have zq := dS_size (P * T / L) d
  generalize P * T / L = q at *
  generalize P * T % L = r at *
  have zY := dS_size Y 4
  have zM := dS_size M 2
  have zD := dS_size D 2
  have TU := Lib.hid TU
  have CA := Lib.hid CA
  have TI := Lib.hid TI
  have HM := Lib.hid hM
  have HD := Lib.hid hD
  have wL : IntKind.u64.wrap (L : Int) = (L : Int) := Dv.w_id (by omega)
  have i0 : ¬ (d : Int) < 0 := by omega
  have i1 : ¬ 9 < (d : Int) := by omega
  have P0 : P ≤ 86401000000 := by omega
  have HT := Lib.hid hT
  clear e1 e2 e3 eP eT eQ h h1 h2 PQ q1 rg rg2 zb1 zb2 hM hD b1 b2 b3 hT
  go_enter Tryz.func31, Tryz.ntmps31
  go_wp2_with fail
  refine (TU.out _).mono ?_
  rintro e w1 ⟨rfl, hb⟩
  have B1 := Lib.hid hb
  clear hb TU
  go_wp2_with fail
  refine (CA.out _).mono ?_
  rintro e w' ⟨rfl, rfl⟩
  go_wp2_with fail
  refine (PY.out _ (HT.out.below B1.out)).mono ?_
  rintro e w2 ⟨rfl, hb⟩
  have B2 := Lib.hid (below_then B1.out hb)
  clear hb B1 PY CA
  go_wp2_with fail
  refine (PM.out _ (HT.out.below B2.out)).mono ?_
  rintro e w3 ⟨rfl, hb⟩
  have B3 := Lib.hid (below_then B2.out hb)
  clear hb B2 PM
  go_wp2_with fail
  refine (PD.out _ (HT.out.below B3.out)).mono ?_
  rintro e w4 ⟨rfl, hb⟩
  have B4 := Lib.hid (below_then B3.out hb)
  clear hb B3 PD
  by_cases hc : 0 < d
  · have hc' : (0 : Int) < (d : Int) := by omega
    have E := Lib.hid (show daytS Y M D q d = dbS Y M D ++ ((⟨#[46]⟩ : ByteArray) ++ dS q d) from if_pos hc)
    go_wp2_with fail
    refine (TE.out _).mono ?_
    rintro e w' ⟨rfl, rfl⟩
    go_wp2_with fail
    refine (HM.out _).mono ?_
    rintro e w' ⟨rfl, rfl⟩
    go_wp2_with fail
    refine (BE.out _).mono ?_
    rintro e w6 ⟨rfl, hb6⟩
    have B6 := Lib.hid (below_then B4.out hb6)
    clear hb6 BE
    go_wp2_with fail
    refine (BG.out _).mono ?_
    rintro e w7 ⟨rfl, hb7⟩
    have B7 := Lib.hid (below_then B6.out hb7)
    clear hb7 BG
    generalize bgv (n + 1) z k = c1 at *
    generalize bgv n y m = c0 at *
    go_wp2_with fail
    refine (HD.out _).mono ?_
    rintro e w8 ⟨rfl, hb8⟩
    have B8 := Lib.hid (below_then B7.out hb8)
    clear hb8
    go_wp2_with fail
    refine (PF.out _ (HT.out.below B8.out) hc).mono ?_
    rintro e w9 ⟨rfl, hb9⟩
    have B9 := Lib.hid (below_then B8.out hb9)
    clear hb9 PF
    go_wp2_with fail
    go_ret2
    exact ⟨_, 0, rfl, TI.out _ E.out.symm, B9.out⟩
  · have hc' : ¬ (0 : Int) < (d : Int) := by omega
    have E := Lib.hid (show daytS Y M D q d = dbS Y M D from if_neg hc)
    go_wp2_with fail
    go_ret2
    exact ⟨_, 0, rfl, TI.out _ E.out.symm, B4.out⟩
end At
end Go.Proofs.YtafeigpmldgifaaGreatDoor
/-
  Plain laws of MomentRounds: texts and times correspond; no walk here.
-/
namespace Go.Proofs.YtafeigpmldgifaaGreatDoor
namespace At
open Go.RowKit Lw Ap Go.Proofs.YtafeigpmldgifaaGreatDoor.Mp Go.Proofs.YtafeigpmldgifaaGreatDoor.Mw

/-! ### Strings as lists -/
theorem toL_inj {s t : ByteArray} (h : s.data.toList = t.data.toList) : s = t := by
  cases s; cases t
  simp only at h
  rw [Array.toList_inj.1 h]
theorem ext_L (s : ByteArray) (i j : Nat) (hj : j ≤ s.size) : (s.extract i j).data.toList = (s.data.toList.drop i).take (j - i) := by
  simp
theorem bt_L (s : ByteArray) (k : Nat) (hk : k < s.size) : bt s k = ((s.data.toList.getD k 0).toNat : Int) := by
  rw [bt_of s k hk]
  have h : k < s.data.toList.length := by simpa using hk
  rw [List.getD_eq_getElem?_getD, List.getElem?_eq_getElem h]
  rfl
theorem app_L (a b : ByteArray) : (a ++ b).data.toList = a.data.toList ++ b.data.toList := by simp
theorem dS_L (n k : Nat) : (dS n k).data.toList = decL n k := rfl
/-- A digit. -/
abbrev isD (c : UInt8) : Prop := 48 ≤ (c.toNat : Int) ∧ (c.toNat : Int) ≤ 57
theorem num2 {a b : UInt8} (ha : isD a) (hb : isD b) : allD [a, b] ∧ 0 ≤ numL [a, b] ∧ numL [a, b] < 100 := by
  refine ⟨fun c hc => ?_, ?_⟩
  · simp only [List.mem_cons, List.not_mem_nil, or_false] at hc
    rcases hc with rfl | rfl
    · exact ha
    · exact hb
  · simp only [numL, List.foldl]; omega
theorem num4 {a b c d : UInt8} (ha : isD a) (hb : isD b) (hc : isD c) (hd : isD d) : allD [a, b, c, d] ∧ 0 ≤ numL [a, b, c, d] ∧ numL [a, b, c, d] < 10000 := by
  refine ⟨fun x hx => ?_, ?_⟩
  · simp only [List.mem_cons, List.not_mem_nil, or_false] at hx
    rcases hx with rfl | rfl | rfl | rfl
    · exact ha
    · exact hb
    · exact hc
    · exact hd
  · simp only [numL, List.foldl]; omega
/-- Digits are the digits of their number. -/
theorem dec_of {l : List UInt8} (h : allD l) : decL (numL l).toNat l.length = l := by
  have hb := numL_bd l l.length (Nat.le_refl _) (by rw [List.take_length]; exact h)
  rw [List.take_length] at hb
  obtain ⟨e1, e2⟩ := decL_num l.length (numL l).toNat
  refine num_inj l.length _ _ (decL_len _ _) rfl e2 h ?_
  rw [e1]
  have c : (numL l).toNat < 10 ^ l.length := by
    have := hb.2
    have e : ((10 ^ l.length : Nat) : Int) = 10 ^ l.length := by simp
    omega
  rw [Nat.mod_eq_of_lt c]
  omega
theorem dec_all (n k : Nat) : allD (decL n k) := (decL_num k n).2
theorem dec_val {n k : Nat} (h : n < 10 ^ k) : numV (decL n k) = n := by
  rw [numV_yes (dec_all n k), (decL_num k n).1, Nat.mod_eq_of_lt h]
theorem dec2 (n : Nat) : ∃ a b, decL n 2 = [a, b] ∧ isD a ∧ isD b := by
  refine ⟨_, _, rfl, ?_, ?_⟩
  · exact dec_all n 2 _ (by simp [decL])
  · exact dec_all n 2 _ (by simp [decL])
theorem dec4 (n : Nat) : ∃ a b c d, decL n 4 = [a, b, c, d] ∧ isD a ∧ isD b ∧ isD c ∧ isD d := by
  refine ⟨_, _, _, _, rfl, ?_, ?_, ?_, ?_⟩
  · exact dec_all n 4 _ (by simp [decL])
  · exact dec_all n 4 _ (by simp [decL])
  · exact dec_all n 4 _ (by simp [decL])
  · exact dec_all n 4 _ (by simp [decL])
/-- The first nineteen bytes, and the rest. -/
abbrev l19 (a b c d e f g h i j k l m n : UInt8) (r : List UInt8) : List UInt8 := a :: b :: c :: d :: 45 :: e :: f :: 45 :: g :: h :: 84 :: i :: j :: 58 :: k :: l :: 58 :: m :: n :: r
abbrev l10 (a b c d e f g h : UInt8) (r : List UInt8) : List UInt8 := a :: b :: c :: d :: 32 :: e :: f :: 32 :: g :: h :: r
theorem lt_19 {k : Nat} (h : k < 19) : k = 0 ∨ k = 1 ∨ k = 2 ∨ k = 3 ∨ k = 4 ∨ k = 5 ∨ k = 6 ∨ k = 7 ∨ k = 8 ∨ k = 9 ∨ k = 10 ∨ k = 11 ∨ k = 12 ∨ k = 13 ∨ k = 14 ∨ k = 15 ∨ k = 16 ∨ k = 17 ∨ k = 18 := by omega
theorem okD {s p : ByteArray} {k : Nat} (hk : k < s.size) (hp : bt p k = 48) (h : isD (s.data.toList.getD k 0)) : okAt s p k :=
  ⟨fun _ => by rw [bt_L s k hk]; exact h, fun g => absurd hp g⟩
theorem okC {s p : ByteArray} {k : Nat} (hk : k < s.size) (hp : ¬ bt p k = 48) (h : ((s.data.toList.getD k 0).toNat : Int) = bt p k) : okAt s p k :=
  ⟨fun g => absurd g hp, fun _ => by rw [bt_L s k hk]; exact h⟩
theorem like19 {s : ByteArray} {a b c d e f g h i j k l m n : UInt8} (hs : s.data.toList = l19 a b c d e f g h i j k l m n [])
    (ha : isD a) (hb : isD b) (hc : isD c) (hd : isD d) (he : isD e) (hf : isD f) (hg : isD g) (hh : isD h) (hi : isD i) (hj : isD j) (hk : isD k) (hl : isD l) (hm : isD m) (hn : isD n) : likeP s P19 := by
  have sz : s.size = 19 := by have := congrArg List.length hs; simpa using this
  refine ⟨sz, fun q hq => ?_⟩
  rw [sz] at hq
  rcases lt_19 hq with rfl | rfl | rfl | rfl | rfl | rfl | rfl | rfl | rfl | rfl | rfl | rfl | rfl | rfl | rfl | rfl | rfl | rfl | rfl
  all_goals first
    | (refine okD (by omega) (by decide) ?_; rw [hs]; assumption)
    | (refine okC (by omega) (by decide) ?_; rw [hs]; rfl)
theorem lt_10 {k : Nat} (h : k < 10) : k = 0 ∨ k = 1 ∨ k = 2 ∨ k = 3 ∨ k = 4 ∨ k = 5 ∨ k = 6 ∨ k = 7 ∨ k = 8 ∨ k = 9 := by omega
theorem like10 {s : ByteArray} {a b c d e f g h : UInt8} (hs : s.data.toList = l10 a b c d e f g h [])
    (ha : isD a) (hb : isD b) (hc : isD c) (hd : isD d) (he : isD e) (hf : isD f) (hg : isD g) (hh : isD h) : likeP s P10 := by
  have sz : s.size = 10 := by have := congrArg List.length hs; simpa using this
  refine ⟨sz, fun q hq => ?_⟩
  rw [sz] at hq
  rcases lt_10 hq with rfl | rfl | rfl | rfl | rfl | rfl | rfl | rfl | rfl | rfl
  all_goals first
    | (refine okD (by omega) (by decide) ?_; rw [hs]; assumption)
    | (refine okC (by omega) (by decide) ?_; rw [hs]; rfl)
theorem list_n (l : List UInt8) : ∀ n, n ≤ l.length → ∃ a r, l = a ++ r ∧ a.length = n := fun n h => ⟨l.take n, l.drop n, (List.take_append_drop n l).symm, by rw [List.length_take]; omega⟩
theorem u8_val {c : UInt8} {n : Nat} (hn : n < 256) (h : (c.toNat : Int) = n) : c = UInt8.ofNat n := by
  apply UInt8.toNat_inj.1
  rw [UInt8.toNat_ofNat_of_lt' (by simpa [UInt8.size] using hn)]
  omega
theorem at_d {s p : ByteArray} {k : Nat} (hl : likeP s p) (hk : k < s.size) (hp : bt p k = 48) : isD (s.data.toList.getD k 0) := by
  have := (hl.2 k hk).1 hp
  rwa [bt_L s k hk] at this
theorem at_c {s p : ByteArray} {k n : Nat} (hl : likeP s p) (hk : k < s.size) (hp : bt p k = (n : Int)) (h48 : n ≠ 48) (hn : n < 256) : s.data.toList.getD k 0 = UInt8.ofNat n := by
  have := (hl.2 k hk).2 (by omega)
  rw [bt_L s k hk, hp] at this
  exact u8_val hn this
/-- A string that begins as a text of a time does. -/
theorem split19 {s : ByteArray} (hn : 19 ≤ s.size) (hl : likeP (s.extract 0 19) P19) : ∃ a b c d e f g h i j k l m n r, s.data.toList = l19 a b c d e f g h i j k l m n r ∧
    isD a ∧ isD b ∧ isD c ∧ isD d ∧ isD e ∧ isD f ∧ isD g ∧ isD h ∧ isD i ∧ isD j ∧ isD k ∧ isD l ∧ isD m ∧ isD n := by
  have e0 := ext_L s 0 19 hn
  obtain ⟨p, r, hp, pl⟩ := list_n s.data.toList 19 (by simpa using hn)
  have e1 : (s.extract 0 19).data.toList = p := by
    rw [e0, hp, List.drop_zero, Nat.sub_zero, ← pl, List.take_left]
  have sz := hl.1
  rw [P19_size] at sz
  match p, pl with
  | [a, b, c, d, x1, e, f, x2, g, h, x3, i, j, x4, k, l, x5, m, n], _ =>
    have y1 := at_c (k := 4) (n := 45) hl (by omega) (by decide) (by decide) (by decide)
    have y2 := at_c (k := 7) (n := 45) hl (by omega) (by decide) (by decide) (by decide)
    have y3 := at_c (k := 10) (n := 84) hl (by omega) (by decide) (by decide) (by decide)
    have y4 := at_c (k := 13) (n := 58) hl (by omega) (by decide) (by decide) (by decide)
    have y5 := at_c (k := 16) (n := 58) hl (by omega) (by decide) (by decide) (by decide)
    have q0 := at_d (k := 0) hl (by omega) (by decide)
    have q1 := at_d (k := 1) hl (by omega) (by decide)
    have q2 := at_d (k := 2) hl (by omega) (by decide)
    have q3 := at_d (k := 3) hl (by omega) (by decide)
    have q5 := at_d (k := 5) hl (by omega) (by decide)
    have q6 := at_d (k := 6) hl (by omega) (by decide)
    have q8 := at_d (k := 8) hl (by omega) (by decide)
    have q9 := at_d (k := 9) hl (by omega) (by decide)
    have q11 := at_d (k := 11) hl (by omega) (by decide)
    have q12 := at_d (k := 12) hl (by omega) (by decide)
    have q14 := at_d (k := 14) hl (by omega) (by decide)
    have q15 := at_d (k := 15) hl (by omega) (by decide)
    have q17 := at_d (k := 17) hl (by omega) (by decide)
    have q18 := at_d (k := 18) hl (by omega) (by decide)
    rw [e1] at y1 y2 y3 y4 y5 q0 q1 q2 q3 q5 q6 q8 q9 q11 q12 q14 q15 q17 q18
    simp only [List.getD_cons_zero, List.getD_cons_succ] at y1 y2 y3 y4 y5 q0 q1 q2 q3 q5 q6 q8 q9 q11 q12 q14 q15 q17 q18
    subst y1 y2 y3 y4 y5
    exact ⟨a, b, c, d, e, f, g, h, i, j, k, l, m, n, r, hp, q0, q1, q2, q3, q5, q6, q8, q9, q11, q12, q14, q15, q17, q18⟩
theorem split10 {s : ByteArray} (hn : 10 ≤ s.size) (hl : likeP (s.extract 0 10) P10) : ∃ a b c d e f g h r, s.data.toList = l10 a b c d e f g h r ∧
    isD a ∧ isD b ∧ isD c ∧ isD d ∧ isD e ∧ isD f ∧ isD g ∧ isD h := by
  have e0 := ext_L s 0 10 hn
  obtain ⟨p, r, hp, pl⟩ := list_n s.data.toList 10 (by simpa using hn)
  have e1 : (s.extract 0 10).data.toList = p := by
    rw [e0, hp, List.drop_zero, Nat.sub_zero, ← pl, List.take_left]
  have sz := hl.1
  rw [P10_size] at sz
  match p, pl with
  | [a, b, c, d, x1, e, f, x2, g, h], _ =>
    have y1 := at_c (k := 4) (n := 32) hl (by omega) (by decide) (by decide) (by decide)
    have y2 := at_c (k := 7) (n := 32) hl (by omega) (by decide) (by decide) (by decide)
    have q0 := at_d (k := 0) hl (by omega) (by decide)
    have q1 := at_d (k := 1) hl (by omega) (by decide)
    have q2 := at_d (k := 2) hl (by omega) (by decide)
    have q3 := at_d (k := 3) hl (by omega) (by decide)
    have q5 := at_d (k := 5) hl (by omega) (by decide)
    have q6 := at_d (k := 6) hl (by omega) (by decide)
    have q8 := at_d (k := 8) hl (by omega) (by decide)
    have q9 := at_d (k := 9) hl (by omega) (by decide)
    rw [e1] at y1 y2 q0 q1 q2 q3 q5 q6 q8 q9
    simp only [List.getD_cons_zero, List.getD_cons_succ] at y1 y2 q0 q1 q2 q3 q5 q6 q8 q9
    subst y1 y2
    exact ⟨a, b, c, d, e, f, g, h, r, hp, q0, q1, q2, q3, q5, q6, q8, q9⟩
/-! ### The parts of such a string -/
theorem nm_L {s : ByteArray} {l : List UInt8} (hs : s.data.toList = l) (i j : Nat) (hj : j ≤ s.size) : nm s i j = numV ((l.drop i).take (j - i)) := by
  unfold nm
  rw [ext_L s i j hj, hs]
/-- The numbers of a text of a time. -/
theorem text_nums {s : ByteArray} {a b c d e f g h i j k l m n : UInt8} {r : List UInt8} (hs : s.data.toList = l19 a b c d e f g h i j k l m n r) :
    nm s 0 4 = numV [a, b, c, d] ∧ nm s 5 7 = numV [e, f] ∧ nm s 8 10 = numV [g, h] ∧ nm s 11 13 = numV [i, j] ∧ nm s 14 16 = numV [k, l] ∧ nm s 17 19 = numV [m, n] := by
  have sz : 19 ≤ s.size := by have := congrArg List.length hs; simp at this; omega
  refine ⟨?_, ?_, ?_, ?_, ?_, ?_⟩ <;> rw [nm_L hs _ _ (by omega)] <;> rfl
theorem day_nums {s : ByteArray} {a b c d e f g h : UInt8} {r : List UInt8} (hs : s.data.toList = l10 a b c d e f g h r) :
    nm s 0 4 = numV [a, b, c, d] ∧ nm s 5 7 = numV [e, f] ∧ nm s 8 10 = numV [g, h] := by
  have sz : 10 ≤ s.size := by have := congrArg List.length hs; simp at this; omega
  refine ⟨?_, ?_, ?_⟩ <;> rw [nm_L hs _ _ (by omega)] <;> rfl
theorem base_L (Y M D H I S : Nat) : (baseS Y M D H I S).data.toList = decL Y 4 ++ (45 :: (decL M 2 ++ (45 :: (decL D 2 ++ (84 :: (decL H 2 ++ (58 :: (decL I 2 ++ (58 :: decL S 2))))))))) := by
  unfold baseS
  simp only [app_L, dS_L, List.append_assoc]
  rfl
theorem text_L (Y M D H I S U d : Nat) : (textS Y M D H I S U d).data.toList = decL Y 4 ++ (45 :: (decL M 2 ++ (45 :: (decL D 2 ++ (84 :: (decL H 2 ++ (58 :: (decL I 2 ++ (58 :: (decL S 2 ++ ((if 0 < d then 46 :: (decL U 6).take d else []) ++ [90]))))))))))) := by
  unfold textS
  by_cases h : 0 < d
  · rw [if_pos h, if_pos h]
    simp only [app_L, base_L, List.append_assoc, List.cons_append]
    have e : ((dS U 6).extract 0 d).data.toList = (decL U 6).take d := by
      by_cases h6 : d ≤ 6
      · rw [ext_L _ _ _ (by rw [dS_size]; exact h6)]; rfl
      · simp [dS_L]
    rw [e]
    rfl
  · rw [if_neg h, if_neg h]
    simp only [app_L, base_L, List.append_assoc, List.cons_append]
    rfl
theorem dayt_L (Y M D q d : Nat) : (daytS Y M D q d).data.toList = decL Y 4 ++ (32 :: (decL M 2 ++ (32 :: (decL D 2 ++ (if 0 < d then 46 :: decL q d else []))))) := by
  unfold daytS dbS
  by_cases h : 0 < d
  · rw [if_pos h, if_pos h]
    simp only [app_L, dS_L, List.append_assoc]
    rfl
  · rw [if_neg h, if_neg h]
    simp only [app_L, dS_L, List.append_assoc, List.append_nil]
    rfl
end At
end Go.Proofs.YtafeigpmldgifaaGreatDoor
/-
  Reading numbers between separators: fields of package moment and its function literal.
-/
namespace Go.Proofs.YtafeigpmldgifaaGreatDoor
namespace Ap
open Go.RowKit Lw

theorem owns_set {w : World} {base : Nat} {e : TypeId} {g n cap : Nat} {xs : List Value} {u : Value} (h : w.ownsRow base e 1 (.slice (some ⟨g, 0, none⟩) n cap) n (xs ++ [u])) (u' : Value) :
    (w.setCell ⟨g, xs.length, none⟩ u').ownsRow base e 1 (.slice (some ⟨g, 0, none⟩) n cap) n (xs ++ [u']) := by
  obtain ⟨h1, h2⟩ := h
  refine ⟨by simpa using h1, ?_⟩
  rcases h2 with ⟨h2, _⟩ | ⟨g', cap', cur, hv, hg, hh, hc1, hc2, hsz, ht⟩
  · cases h2
  · cases hv
    refine Or.inr ⟨g, cap, cur.set! xs.length u', rfl, hg, ?_, hc1, hc2, by simpa using hsz, ?_⟩
    · have hlt := lt_of_block hh
      have h' : w.heap[g] = .cells cur e (0, 0) := by simpa [Array.getElem?_eq_getElem hlt] using hh
      show (w.heap.modify g _)[g]? = _
      rw [Array.getElem?_eq_getElem (by simpa using hlt), Array.getElem_modify_self, h']
      rfl
    · have hn : n = xs.length + 1 := by simpa using h1.symm
      subst hn
      simp only [Nat.mul_one] at ht ⊢
      rw [Array.set!_eq_setIfInBounds, Array.toList_setIfInBounds]
      have hl : xs.length < cur.toList.length := by simp at hsz ⊢; omega
      rw [List.take_set, ht]
      simp
theorem info_int : (Tryz.prog.info? 3).map (fun i => (i.zero, i.size, i.bytes)) = some (some (.int .i64 0), 1, 8) := by kernel_rfl
end Ap
end Go.Proofs.YtafeigpmldgifaaGreatDoor
/-
  The walk of fields of package moment.
-/
namespace Go.Proofs.YtafeigpmldgifaaGreatDoor
namespace Ap
open Go.RowKit Lw

/-- What fields returns: the numbers, or that the string does not follow the pattern. -/
def FldPost (s p : ByteArray) (w : World) (e : Ending) (w' : World) : Prop := Below w.heap.size w w' ∧
  ((likeP s p ∧ ∃ v, e = .returned (.tuple #[v, .bool true]) ∧ w'.ownsRow (w.heap.size + 4) 3 1 v (grpL s p s.size).length ((grpL s p s.size).map (Value.int .i64))) ∨
   (¬ likeP s p ∧ e = .returned (.tuple #[.slice none 0 0, .bool false])))
end Ap
end Go.Proofs.YtafeigpmldgifaaGreatDoor
/-
  The walk of Parse of package moment.
-/
namespace Go.Proofs.YtafeigpmldgifaaGreatDoor
namespace Ap
open Go.RowKit Lw Go.Proofs.YtafeigpmldgifaaGreatDoor.Mp

theorem digs {h p : ByteArray} {i j : Nat} (hl : likeP h p) (hj : j ≤ h.size) (hp : ∀ k, i ≤ k → k < j → bt p k = 48) : allD (h.extract i j).data.toList := by
  rw [allD_bt]
  intro k hk
  rw [size_ext h i j hj] at hk
  rw [bt_ext h i j k hj (by omega)]
  exact (hl.2 (i + k) (by omega)).1 (hp (i + k) (by omega) (by omega))
theorem P19_d : ∀ k, k < 19 → (bt P19 k = 48 ↔ ¬ (k = 4 ∨ k = 7 ∨ k = 10 ∨ k = 13 ∨ k = 16)) := by decide
theorem P10_d : ∀ k, k < 10 → (bt P10 k = 48 ↔ ¬ (k = 4 ∨ k = 7)) := by decide
theorem grp19 (h : ByteArray) (hs : h.size = 19) : grpL h P19 19 = [numL (h.extract 0 4).data.toList, numL (h.extract 5 7).data.toList, numL (h.extract 8 10).data.toList, numL (h.extract 11 13).data.toList, numL (h.extract 14 16).data.toList, numL (h.extract 17 19).data.toList] := by
  have d : ∀ i n, i + n ≤ 19 → (¬ (i ≤ 4 ∧ 4 < i + n) ∧ ¬ (i ≤ 7 ∧ 7 < i + n) ∧ ¬ (i ≤ 10 ∧ 10 < i + n) ∧ ¬ (i ≤ 13 ∧ 13 < i + n) ∧ ¬ (i ≤ 16 ∧ 16 < i + n)) → ∀ j, i ≤ j → j < i + n → bt P19 j = 48 := fun i n h1 h2 j a b => (P19_d j (by omega)).2 (by omega)
  have n : ∀ k, k < 19 → (k = 4 ∨ k = 7 ∨ k = 10 ∨ k = 13 ∨ k = 16) → ¬ bt P19 k = 48 := fun k hk h e => (P19_d k hk).1 e h
  have r0 := grp_run h P19 0 rfl 4 (by omega) (by omega) (d 0 4 (by omega) (by omega))
  have r1 := grp_run h P19 5 (decide_eq_false (n 4 (by omega) (by omega))) 2 (by omega) (by omega) (d 5 2 (by omega) (by omega))
  have r2 := grp_run h P19 8 (decide_eq_false (n 7 (by omega) (by omega))) 2 (by omega) (by omega) (d 8 2 (by omega) (by omega))
  have r3 := grp_run h P19 11 (decide_eq_false (n 10 (by omega) (by omega))) 2 (by omega) (by omega) (d 11 2 (by omega) (by omega))
  have r4 := grp_run h P19 14 (decide_eq_false (n 13 (by omega) (by omega))) 2 (by omega) (by omega) (d 14 2 (by omega) (by omega))
  have r5 := grp_run h P19 17 (decide_eq_false (n 16 (by omega) (by omega))) 2 (by omega) (by omega) (d 17 2 (by omega) (by omega))
  have s4 := grp_skip (s := h) (n 4 (by omega) (by omega))
  have s7 := grp_skip (s := h) (n 7 (by omega) (by omega))
  have s10 := grp_skip (s := h) (n 10 (by omega) (by omega))
  have s13 := grp_skip (s := h) (n 13 (by omega) (by omega))
  have s16 := grp_skip (s := h) (n 16 (by omega) (by omega))
  simp only [Nat.reduceAdd] at r0 r1 r2 r3 r4 r5 s4 s7 s10 s13 s16
  rw [r5, s16, r4, s13, r3, s10, r2, s7, r1, s4, r0]
  rfl
theorem grp10 (h : ByteArray) (hs : h.size = 10) : grpL h P10 10 = [numL (h.extract 0 4).data.toList, numL (h.extract 5 7).data.toList, numL (h.extract 8 10).data.toList] := by
  have d : ∀ i n, i + n ≤ 10 → (¬ (i ≤ 4 ∧ 4 < i + n) ∧ ¬ (i ≤ 7 ∧ 7 < i + n)) → ∀ j, i ≤ j → j < i + n → bt P10 j = 48 := fun i n h1 h2 j a b => (P10_d j (by omega)).2 (by omega)
  have n : ∀ k, k < 10 → (k = 4 ∨ k = 7) → ¬ bt P10 k = 48 := fun k hk h e => (P10_d k hk).1 e h
  have r0 := grp_run h P10 0 rfl 4 (by omega) (by omega) (d 0 4 (by omega) (by omega))
  have r1 := grp_run h P10 5 (decide_eq_false (n 4 (by omega) (by omega))) 2 (by omega) (by omega) (d 5 2 (by omega) (by omega))
  have r2 := grp_run h P10 8 (decide_eq_false (n 7 (by omega) (by omega))) 2 (by omega) (by omega) (d 8 2 (by omega) (by omega))
  have s4 := grp_skip (s := h) (n 4 (by omega) (by omega))
  have s7 := grp_skip (s := h) (n 7 (by omega) (by omega))
  simp only [Nat.reduceAdd] at r0 r1 r2 s4 s7
  rw [r2, s7, r1, s4, r0]
  rfl
theorem nm_of {s p : ByteArray} {m i j : Nat} (hl : likeP (s.extract 0 m) p) (hm : m ≤ s.size) (hj : j ≤ m) (hp : ∀ k, i ≤ k → k < j → bt p k = 48) : numL ((s.extract 0 m).extract i j).data.toList = nm s i j := by
  have hs : (s.extract 0 m).size = m := by rw [size_ext s _ _ hm]; omega
  have d := digs hl (by omega) hp
  have e : (s.extract 0 m).extract i j = s.extract i j := by rw [ByteArray.extract_extract]; congr 1 <;> omega
  rw [e] at d ⊢
  exact (numV_yes d).symm
theorem vals19 {s : ByteArray} (hl : likeP (s.extract 0 19) P19) (hs : 19 ≤ s.size) : grpL (s.extract 0 19) P19 (s.extract 0 19).size = [nm s 0 4, nm s 5 7, nm s 8 10, nm s 11 13, nm s 14 16, nm s 17 19] := by
  have h19 : (s.extract 0 19).size = 19 := by rw [size_ext s _ _ hs]
  have d : ∀ i j, j ≤ 19 → (¬ (i ≤ 4 ∧ 4 < j) ∧ ¬ (i ≤ 7 ∧ 7 < j) ∧ ¬ (i ≤ 10 ∧ 10 < j) ∧ ¬ (i ≤ 13 ∧ 13 < j) ∧ ¬ (i ≤ 16 ∧ 16 < j)) → ∀ k, i ≤ k → k < j → bt P19 k = 48 := fun i j h1 h2 k a b => (P19_d k (by omega)).2 (by omega)
  rw [h19, grp19 _ h19]
  rw [nm_of hl hs (by omega) (d 0 4 (by omega) (by omega)), nm_of hl hs (by omega) (d 5 7 (by omega) (by omega)), nm_of hl hs (by omega) (d 8 10 (by omega) (by omega)), nm_of hl hs (by omega) (d 11 13 (by omega) (by omega)), nm_of hl hs (by omega) (d 14 16 (by omega) (by omega)), nm_of hl hs (by omega) (d 17 19 (by omega) (by omega))]
theorem vals10 {s : ByteArray} (hl : likeP (s.extract 0 10) P10) (hs : 10 ≤ s.size) : grpL (s.extract 0 10) P10 (s.extract 0 10).size = [nm s 0 4, nm s 5 7, nm s 8 10] := by
  have h10 : (s.extract 0 10).size = 10 := by rw [size_ext s _ _ hs]
  have d : ∀ i j, j ≤ 10 → (¬ (i ≤ 4 ∧ 4 < j) ∧ ¬ (i ≤ 7 ∧ 7 < j)) → ∀ k, i ≤ k → k < j → bt P10 k = 48 := fun i j h1 h2 k a b => (P10_d k (by omega)).2 (by omega)
  rw [h10, grp10 _ h10]
  rw [nm_of hl hs (by omega) (d 0 4 (by omega) (by omega)), nm_of hl hs (by omega) (d 5 7 (by omega) (by omega)), nm_of hl hs (by omega) (d 8 10 (by omega) (by omega))]
theorem run19 : ∀ k, k < P19.size → runAt P19 k ≤ 8 := by decide
theorem run10 : ∀ k, k < P10.size → runAt P10 k ≤ 8 := by decide
theorem run6 : ∀ k, k < P6.size → runAt P6 k ≤ 8 := by decide
theorem row_cells {w : World} {base : Nat} {e : TypeId} {v : Value} {n : Nat} {xs : List Value} (h : w.ownsRow base e 1 v n xs) (hn : 0 < n) :
    ∃ g cap, v = .slice (some ⟨g, 0, none⟩) n cap ∧ g < w.heap.size ∧ ∀ j u, xs[j]? = some u → w.cell? ⟨g, j, none⟩ = some u := by
  obtain ⟨g, cap, rfl, _, hg⟩ := h.form hn
  refine ⟨g, cap, rfl, hg, fun j u hu => ?_⟩
  have ce := h.cells (g := g) rfl j u hu
  have ae : (⟨g, 0, none⟩ : Addr).add j = ⟨g, j, none⟩ := by
    unfold Addr.add
    split
    · simp [*]
    · simp
  rwa [ae] at ce
theorem empty_yes {t : ByteArray} (h : t.size = 0) : t.toList.isEmpty = true := by
  rw [Lib.toList_data, List.isEmpty_iff_length_eq_zero]; simpa using h
theorem empty_no {t : ByteArray} (h : t.size ≠ 0) : t.toList.isEmpty = false := by
  rw [Lib.toList_data, Bool.eq_false_iff, ne_eq, List.isEmpty_iff_length_eq_zero]; simpa using h
def ParsePost (s : ByteArray) (w : World) (e : Ending) (w' : World) : Prop := ∃ t c : Int, e = .returned (.tuple #[.int .i64 t, .int .i64 c]) ∧ ParseIs s t c ∧ Below w.heap.size w w'
theorem parse_not {s : ByteArray} (h : ¬ progT s) : ParseIs s 0 12 := Or.inr ⟨fun g => h (text_prog g.1), rfl, rfl⟩
end Ap
end Go.Proofs.YtafeigpmldgifaaGreatDoor
/-
  What ParseDay calls: slices.ContainsFunc at bytes, strconv.ParseUint at digits; and what its text says.
-/
namespace Go.Proofs.YtafeigpmldgifaaGreatDoor
namespace Ap
open Go.RowKit Lw Go.Proofs.YtafeigpmldgifaaGreatDoor.Mp

/-- The bytes of a string in a block. -/
def Held (s : ByteArray) (B : Nat) (w' : World) : Prop := B < w'.heap.size ∧ ∀ j (h : j < s.size), w'.cell? ⟨B, j, none⟩ = some (.int .u8 (s[j].toNat : Int))
theorem bytes_in (w : World) (s : ByteArray) : ∃ (W : World) (cap : Nat), (convert 9 42 (.string s)).run Tryz.prog w = .ok (.slice (some ⟨w.heap.size, 0, none⟩) s.size cap) W ∧ Held s w.heap.size W ∧ Below w.heap.size w W ∧ s.size ≤ cap := by
  refine ⟨_, _, run_bytes_of_string (P := Tryz.prog) w 9 42 5 s Tryz.underlying9 Tryz.underlying42 Tryz.underlying5, ⟨by simp, fun j hj => ?_⟩, ((Below.refl _ w).drew).alloc (Nat.le_refl _) _, ?_⟩
  · rw [cell_of_row (World.alloc _ _) w.heap.size j (bytesRow s (grownCap w s.size 0 5)) 5 ((bytesRow s (grownCap w s.size 0 5)).size, (bytesRow s (grownCap w s.size 0 5)).size + 1) (by show (w.heap.push _)[w.heap.size]? = _; simp)]
    have hj' : j < s.data.size := hj
    unfold bytesRow
    rw [Array.getElem?_append_left (by simpa using hj'), Array.getElem?_map, Array.getElem?_eq_getElem hj']
    rfl
  · exact grownCap_ge w s.size 0 _
theorem allD_no {s : ByteArray} {k : Nat} (hk : k < s.size) (h : ¬ (48 ≤ (s[k].toNat : Int) ∧ (s[k].toNat : Int) ≤ 57)) : ¬ allD s.data.toList := fun g => by
  have := (allD_bt s).1 g k hk
  rw [bt_of s k hk] at this
  exact h this
theorem allD_yes {s : ByteArray} {k : Nat} (hk : ¬ k < s.size) (h : allD (s.data.toList.take k)) : allD s.data.toList := by rwa [take_all s k hk] at h
theorem numL_cons (l : List UInt8) : numL (48 :: l) = numL l := by
  have h48 : ((48 : UInt8).toNat : Int) = 48 := rfl
  unfold numL
  rw [List.foldl_cons, h48]
  rfl
/-- What ParseUint makes of digits. -/
theorem parse_m : ∀ (l : List UInt8) (acc : Nat), allD l → acc * 10 ^ l.length + 10 ^ l.length ≤ 1000000000000000000 → ∃ u : Nat, Lib.parseUintM (2 ^ 64 - 1) acc l = .ok u ∧ (u : Int) = l.foldl (fun n c => 10 * n + ((c.toNat : Int) - 48)) (acc : Int)
  | [], acc, _, _ => ⟨acc, rfl, rfl⟩
  | c :: r, acc, hd, hb => by
    obtain ⟨h1, h2⟩ := hd c (List.mem_cons_self ..)
    have hp : 1 ≤ 10 ^ r.length := Nat.pow_pos (by omega)
    rw [List.length_cons, Nat.pow_succ] at hb
    have hm : acc * (10 ^ r.length * 10) = acc * 10 * 10 ^ r.length := by rw [Nat.mul_comm (10 ^ r.length) 10, Nat.mul_assoc]
    rw [hm] at hb
    have hle : acc * 10 ≤ acc * 10 * 10 ^ r.length := Nat.le_mul_of_pos_right _ hp
    have hb2 : (acc * 10 + (c.toNat - 48)) * 10 ^ r.length + 10 ^ r.length ≤ 1000000000000000000 := by
      rw [Nat.add_mul]
      have : (c.toNat - 48) * 10 ^ r.length ≤ 9 * 10 ^ r.length := Nat.mul_le_mul_right _ (by omega)
      omega
    obtain ⟨u, hu, hv⟩ := parse_m r (acc * 10 + (c.toNat - 48)) (fun x hx => hd x (List.mem_cons_of_mem _ hx)) hb2
    refine ⟨u, ?_, ?_⟩
    · unfold Lib.parseUintM
      rw [if_pos ⟨by omega, by omega⟩, if_neg (by omega), if_neg (by omega)]
      exact hu
    · rw [hv, List.foldl_cons]
      congr 1
      omega
theorem parse_u (t : ByteArray) (h : allD t.data.toList) (hs : t.size ≤ 9) : ∃ u : Nat, Lib.parseUintB 64 ((⟨#[48]⟩ : ByteArray) ++ t).data.toList = .ok u ∧ (u : Int) = numL t.data.toList := by
  have e : ((⟨#[48]⟩ : ByteArray) ++ t).data.toList = 48 :: t.data.toList := by simp
  have hl : t.data.toList.length = t.size := rfl
  obtain ⟨u, hu, hv⟩ := parse_m (48 :: t.data.toList) 0 (fun c hc => by
    rcases List.mem_cons.1 hc with rfl | hc
    · exact ⟨by decide, by decide⟩
    · exact h c hc) (by
    rw [List.length_cons, hl]
    have : ∀ r : Nat, r ≤ 9 → 0 * 10 ^ (r + 1) + 10 ^ (r + 1) ≤ 1000000000000000000 := by decide
    exact this _ hs)
  refine ⟨u, ?_, ?_⟩
  · rw [e]
    unfold Lib.parseUintB
    rw [if_neg (by simp)]
    exact hu
  · rw [hv]
    exact numL_cons _
/-! ### What the program finds of a day text -/
def progD (s : ByteArray) : Prop := likeP (hdP s) P10 ∧ (ptS s < s.size → 1 ≤ (tlP s).size ∧ (tlP s).size ≤ 9) ∧ allD (tlP s).data.toList
theorem up_zero : upI (0 * 0) 1 = 0 := by decide
theorem prog_day {s : ByteArray} (g : progD s) : dayP s ∧ hdP s = s.extract 0 10 ∧ partV s = upI (numL (tlP s).data.toList * dayLen (nm s 0 4) (nm s 5 7) (nm s 8 10)) (tenI (tlP s).size) := by
  obtain ⟨lk, sz, ad⟩ := g
  have hq : ptS s = 10 := by
    have := lk.1
    rw [P10_size] at this
    have le := ptS_le s
    unfold hdP at this
    rw [size_ext _ _ _ le] at this
    omega
  have hle := ptS_le s
  have hh : hdP s = s.extract 0 10 := by unfold hdP; rw [hq]
  rw [hh] at lk
  by_cases hp : ptS s < s.size
  · have ht : tlP s = s.extract 11 s.size := by
      unfold tlP
      rw [if_pos hp, hq]
    have hs := sz hp
    rw [ht, size_ext s _ _ (by omega)] at hs
    have h46 := pt_at s hp
    rw [hq] at h46
    have ad' := ad
    rw [ht] at ad'
    refine ⟨⟨by omega, by omega, by omega, lk, fun _ => ⟨h46, (numV_nn _).2 ad'⟩⟩, hh, ?_⟩
    unfold partV
    rw [if_neg (by omega), ht, size_ext s _ _ (by omega)]
    have : nm s 11 s.size = numL (s.extract 11 s.size).data.toList := numV_yes ad'
    rw [this]
  · have ht : tlP s = ⟨#[]⟩ := if_neg hp
    refine ⟨⟨by omega, by omega, by omega, lk, fun h => absurd h (by omega)⟩, hh, ?_⟩
    unfold partV
    rw [if_pos (by omega), ht]
    have e0 : numL (⟨#[]⟩ : ByteArray).data.toList = 0 := rfl
    have e1 : tenI (⟨#[]⟩ : ByteArray).size = 1 := rfl
    rw [e0, e1, Int.zero_mul]
    rfl
theorem day_prog {s : ByteArray} (g : dayP s) : progD s := by
  obtain ⟨h10, h11, h20, lk, hm⟩ := g
  have no := like_no46 lk (by rw [size_ext s _ _ (by omega)]) P10_no
  have hq : ptS s = 10 := by
    refine pt_uniq (by omega) (fun j hj => ?_) (fun h => (hm h).1)
    have := no j (by omega)
    rw [bt_ext s 0 10 j (by omega) (by omega)] at this
    simpa using this
  have hh : hdP s = s.extract 0 10 := by unfold hdP; rw [hq]
  refine ⟨by rw [hh]; exact lk, fun hp => ?_, ?_⟩
  · have ht : tlP s = s.extract 11 s.size := by
      unfold tlP
      rw [if_pos hp, hq]
    rw [ht, size_ext s _ _ (by omega)]
    omega
  · by_cases hp : ptS s < s.size
    · have ht : tlP s = s.extract 11 s.size := by
        unfold tlP
        rw [if_pos hp, hq]
      rw [ht]
      exact (numV_nn _).1 (hm (by omega)).2
    · have ht : tlP s = ⟨#[]⟩ := if_neg hp
      rw [ht]
      exact fun c hc => absurd hc (by simp)
/-- The length of a day is the time between two beginnings. -/
theorem day_diff {y m d z k : Int} (hw : wholeP y m d) (hz : IsYM (dn y m d + 1) z k) : bgv (dn y m d + 1) z k - bgv (dn y m d) y m = dayLen y m d := by
  unfold dayLen
  rcases day_len hw hz with ⟨a, b⟩ | ⟨a, b⟩
  · unfold leapday at b
    rw [if_neg b]; omega
  · unfold leapday at b
    rw [if_pos b]; omega
theorem dayLen_bd (y m d : Int) : 86400000000 ≤ dayLen y m d ∧ dayLen y m d ≤ 86401000000 := by unfold dayLen; split <;> omega
theorem secs_len (y m d : Int) : Mw.secs y m d * 1000000 = dayLen y m d := by unfold Mw.secs dayLen; split <;> rfl
end Ap
end Go.Proofs.YtafeigpmldgifaaGreatDoor
