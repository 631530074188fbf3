/-
  Plain law: what head, tail and numbers of a text say is what the text says; no walk here.
-/
import Derived.Test.YtmgehfakcnmdnaaDoorMCut
namespace Go.Proofs.YtmgehfakcnmdnaaDoor
namespace Ap
open Go.RowKit Lw Go.Proofs.YtmgehfakcnmdnaaDoor.Mp

theorem bt_ext (s : ByteArray) (i j k : Nat) (hj : j ≤ s.size) (hk : i + k < j) : bt (s.extract i j) k = bt s (i + k) := by
  have h1 : k < (s.extract i j).size := by simp; omega
  rw [bt_of _ k h1, bt_of s (i + k) (by omega)]
  simp [ByteArray.getElem_extract]
theorem size_ext (s : ByteArray) (i j : Nat) (hj : j ≤ s.size) : (s.extract i j).size = j - i := by simp; omega
theorem ext_ext (s : ByteArray) (j k : Nat) (h : k ≤ j) (hj : j ≤ s.size) : (s.extract 0 j).extract 0 k = s.extract 0 k := by
  rw [ByteArray.extract_extract]
  congr 1 <;> omega
theorem ext_ext2 (s : ByteArray) (i j : Nat) (hj : j ≤ s.size) : (s.extract 0 j).extract i j = s.extract i j := by
  rw [ByteArray.extract_extract]
  congr 1 <;> omega
theorem pt_lo (s : ByteArray) (j : Nat) (h : j < ptS s) : ¬ bt s j = 46 := by
  have hj : j < s.size := Nat.lt_of_lt_of_le h (ptS_le s)
  rw [bt_of s j hj]
  exact ptL_lo s.data.toList j h (by simpa using hj)
theorem pt_at (s : ByteArray) (h : ptS s < s.size) : bt s (ptS s) = 46 := by
  rw [bt_of s _ h]
  exact ptL_at s.data.toList (by have g := h; unfold ptS at g; simpa using g)
theorem pt_uniq {s : ByteArray} {q : Nat} (h : q ≤ s.size) (h1 : ∀ j, j < q → ¬ bt s j = 46) (h2 : q < s.size → bt s q = 46) : ptS s = q := by
  refine ptL_uniq (by simpa using h) (fun j g hj => ?_) (fun g => ?_)
  · have hs : j < s.size := by simpa using g
    have := h1 j hj
    rw [bt_of s j hs] at this
    exact this
  · have hs : q < s.size := by simpa using g
    have := h2 hs
    rw [bt_of s q hs] at this
    exact this
theorem allD_bt (s : ByteArray) : allD s.data.toList ↔ ∀ k, k < s.size → 48 ≤ bt s k ∧ bt s k ≤ 57 := by
  constructor
  · intro h k hk
    rw [bt_of s k hk]
    exact h _ (by
      have : s[k] = s.data.toList[k]'(by simpa using hk) := rfl
      rw [this]; exact List.getElem_mem _)
  · intro h c hc
    obtain ⟨k, hk, rfl⟩ := List.mem_iff_getElem.1 hc
    have hs : k < s.size := by simpa using hk
    have := h k hs
    rw [bt_of s k hs] at this
    exact this
theorem numV_nn (l : List UInt8) : 0 ≤ numV l ↔ allD l := by
  unfold numV
  by_cases h : allD l
  · rw [if_pos h]
    have e : l.take l.length = l := List.take_length
    have := numL_bd l l.length (Nat.le_refl _) (by rw [e]; exact h)
    rw [e] at this
    exact ⟨fun _ => h, fun _ => this.1⟩
  · rw [if_neg h]
    exact ⟨fun g => absurd g (by omega), fun g => absurd g h⟩
theorem numV_yes {l : List UInt8} (h : allD l) : numV l = numL l := if_pos h
/-! ### The digits behind the point -/
def pad6 (t : ByteArray) : ByteArray := t ++ P6.extract t.size P6.size
theorem zeros6 (i : Nat) (h : i ≤ 6) : (P6.extract i P6.size).data.toList = List.replicate (6 - i) 48 := by
  have : i = 0 ∨ i = 1 ∨ i = 2 ∨ i = 3 ∨ i = 4 ∨ i = 5 ∨ i = 6 := by omega
  rcases this with rfl | rfl | rfl | rfl | rfl | rfl | rfl <;> decide
theorem pad6_list (t : ByteArray) (h : t.size ≤ 6) : (pad6 t).data.toList = t.data.toList ++ List.replicate (6 - t.size) 48 := by
  rw [← zeros6 t.size h]
  simp [pad6]
theorem pad6_size (t : ByteArray) (h : t.size ≤ 6) : (pad6 t).size = 6 := by
  have := congrArg List.length (pad6_list t h)
  simp at this
  omega
theorem numL_zeros (l : List UInt8) : ∀ k, numL (l ++ List.replicate k 48) = numL l * tenI k
  | 0 => by simp [tenI]
  | k + 1 => by
    have ih := numL_zeros l k
    have e : List.replicate (k + 1) (48 : UInt8) = List.replicate k 48 ++ [48] := List.replicate_succ'
    have h48 : ((48 : UInt8).toNat : Int) = 48 := rfl
    rw [e, ← List.append_assoc, numL_snoc, ih, tenI_s, h48, ← Int.mul_assoc (numL l) (tenI k) 10]
    generalize numL l * tenI k = Z
    omega
theorem P6_at : ∀ k, k < 6 → bt P6 k = 48 := by decide
theorem like6 (t : ByteArray) (h : t.size ≤ 6) : likeP (pad6 t) P6 ↔ allD t.data.toList := by
  have hs := pad6_size t h
  have ha := allD_bt (pad6 t)
  rw [pad6_list t h, hs] at ha
  have hb : allD (t.data.toList ++ List.replicate (6 - t.size) 48) ↔ allD t.data.toList := by
    constructor
    · exact fun g c hc => g c (List.mem_append_left _ hc)
    · intro g c hc
      rcases List.mem_append.1 hc with hc | hc
      · exact g c hc
      · have := (List.mem_replicate.1 hc).2
        subst this
        exact ⟨by decide, by decide⟩
  rw [← hb, ha]
  constructor
  · intro ⟨_, g⟩ k hk
    exact (g k (by omega)).1 (P6_at k hk)
  · intro g
    refine ⟨hs, fun k hk => ⟨fun _ => g k (by omega), fun e => absurd (P6_at k (by omega)) e⟩⟩
theorem grp6 (t : ByteArray) (h : t.size ≤ 6) : grpL (pad6 t) P6 (pad6 t).size = [numL t.data.toList * tenI (6 - t.size)] := by
  have hs := pad6_size t h
  have := grp_run (pad6 t) P6 0 rfl 6 (by omega) (by omega) (fun j _ hj => P6_at j (by omega))
  rw [hs, show (6 : Nat) = 0 + 6 by omega, this]
  have e : (pad6 t).extract 0 (0 + 6) = pad6 t := by rw [show 0 + 6 = (pad6 t).size by omega]; exact extract_all _
  rw [e, pad6_list t h, numL_zeros]
  rfl
/-! ### The numbers ahead of the point -/
theorem P19_no : ∀ j, j < 19 → ¬ bt P19 j = 46 := by decide
theorem P10_no : ∀ j, j < 10 → ¬ bt P10 j = 46 := by decide
theorem like_no46 {h p : ByteArray} {n : Nat} (hl : likeP h p) (hn : h.size = n) (hp : ∀ j, j < n → ¬ bt p j = 46) : ∀ j, j < n → ¬ bt h j = 46 := fun j hj e => by
  obtain ⟨a, b⟩ := hl.2 j (by omega)
  by_cases g : bt p j = 48
  · have := a g; omega
  · have := b g
    exact hp j hj (by omega)
/-- What the program finds of a text. -/
def progT (s : ByteArray) : Prop := zP s ∧ likeP (hdP (noZ s)) P19 ∧ (ptS (noZ s) < (noZ s).size → 1 ≤ (tlP (noZ s)).size ∧ (tlP (noZ s)).size ≤ 6) ∧ allD (tlP (noZ s)).data.toList
theorem P19_size : P19.size = 19 := rfl
theorem P10_size : P10.size = 10 := rfl
theorem prog_text {s : ByteArray} (g : progT s) : textP s ∧ hdP (noZ s) = s.extract 0 19 ∧ microV s = numL (tlP (noZ s)).data.toList * tenI (6 - (tlP (noZ s)).size) := by
  obtain ⟨z, lk, sz, ad⟩ := g
  have hr : noZ s = s.extract 0 (s.size - 1) := if_pos z
  obtain ⟨z1, z2⟩ := z
  have rs : (noZ s).size = s.size - 1 := by rw [hr, size_ext s _ _ (by omega)]; omega
  have hq : ptS (noZ s) = 19 := by
    have := lk.1
    rw [P19_size] at this
    have le := ptS_le (noZ s)
    unfold hdP at this
    rw [size_ext _ _ _ le] at this
    omega
  have hle := ptS_le (noZ s)
  have hh : hdP (noZ s) = s.extract 0 19 := by
    unfold hdP
    rw [hq, hr, ext_ext s _ _ (by omega) (by omega)]
  rw [hh] at lk
  by_cases hp : ptS (noZ s) < (noZ s).size
  · have ht : tlP (noZ s) = s.extract 20 (s.size - 1) := by
      unfold tlP
      rw [if_pos hp, hq, rs, hr, ext_ext2 s _ _ (by omega)]
    have hs := sz hp
    rw [ht, size_ext s _ _ (by omega)] at hs
    have h46 := pt_at (noZ s) hp
    rw [hq, hr, bt_ext s 0 (s.size - 1) 19 (by omega) (by omega)] at h46
    have ad' := ad
    rw [ht] at ad'
    refine ⟨⟨by omega, by omega, by omega, z2, lk, fun _ => ⟨by simpa using h46, (numV_nn _).2 ad'⟩⟩, hh, ?_⟩
    unfold microV nm
    rw [if_neg (by omega), numV_yes ad', ht, size_ext s _ _ (by omega), show 6 - (s.size - 1 - 20) = 27 - s.size by omega]
  · have ht : tlP (noZ s) = ⟨#[]⟩ := if_neg hp
    refine ⟨⟨by omega, by omega, by omega, z2, lk, fun h => absurd h (by omega)⟩, hh, ?_⟩
    unfold microV
    rw [if_pos (by omega), ht]
    rfl
theorem text_prog {s : ByteArray} (g : textP s) : progT s := by
  obtain ⟨h20, h21, h27, hz, lk, hm⟩ := g
  have z : zP s := ⟨by omega, hz⟩
  have hr : noZ s = s.extract 0 (s.size - 1) := if_pos z
  have rs : (noZ s).size = s.size - 1 := by rw [hr, size_ext s _ _ (by omega)]; omega
  have no := like_no46 lk (by rw [size_ext s _ _ (by omega)]) P19_no
  have hq : ptS (noZ s) = 19 := by
    refine pt_uniq (by omega) (fun j hj => ?_) (fun h => ?_)
    · have := no j (by omega)
      rw [bt_ext s 0 19 j (by omega) (by omega)] at this
      rw [hr, bt_ext s 0 _ j (by omega) (by omega)]
      exact this
    · rw [hr, bt_ext s 0 _ 19 (by omega) (by omega)]
      have := (hm (by omega)).1
      simpa using this
  have hh : hdP (noZ s) = s.extract 0 19 := by
    unfold hdP
    rw [hq, hr, ext_ext s _ _ (by omega) (by omega)]
  refine ⟨z, by rw [hh]; exact lk, fun hp => ?_, ?_⟩
  · have ht : tlP (noZ s) = s.extract 20 (s.size - 1) := by
      unfold tlP
      rw [if_pos hp, hq, rs, hr, ext_ext2 s _ _ (by omega)]
    rw [ht, size_ext s _ _ (by omega)]
    omega
  · by_cases hp : ptS (noZ s) < (noZ s).size
    · have ht : tlP (noZ s) = s.extract 20 (s.size - 1) := by
        unfold tlP
        rw [if_pos hp, hq, rs, hr, ext_ext2 s _ _ (by omega)]
      rw [ht]
      exact (numV_nn _).1 (hm (by omega)).2
    · have ht : tlP (noZ s) = ⟨#[]⟩ := if_neg hp
      rw [ht]
      exact fun c hc => absurd hc (by simp)
end Ap
end Go.Proofs.YtmgehfakcnmdnaaDoor
