/-
  Lemmas and walks, texts joined: MRdPl, ORTxt, VSpl, VTab, OAllW, VRNt, OSame, VBck, OSlice, VStr.
-/
import Derived.Lib.SplitLaws
import Derived.Deep.RegionHeld3
import Derived.Deep.MidRow
import Derived.RegionTactic
import Derived.BigRegion
import Derived.StillTailTactics
import Derived.Laws.AppendOwnNone
import Derived.Deep.Slices
import Derived.Deep.Fields
import Derived.ChangeSame
import Derived.OpenShut
import Derived.Test.YtaghilgfldaaiaaGreatDoorVb01
import Derived.Test.YtaghilgfldaaiaaGreatDoorVb02
import Derived.Test.YtaghilgfldaaiaaGreatDoorVb03
import Derived.Test.YtaghilgfldaaiaaGreatDoorVb04
import Derived.Test.YtaghilgfldaaiaaGreatDoorVb05
import Derived.Test.YtaghilgfldaaiaaGreatDoorVb06
import Derived.Test.YtaghilgfldaaiaaGreatDoorVb07
import Derived.Test.YtaghilgfldaaiaaGreatDoorVb08
import Derived.Test.YtaghilgfldaaiaaGreatDoorVb09
set_option linter.unusedSimpArgs false
set_option linter.unusedVariables false
/-
  Plain laws of MomentRounds: texts and times correspond; no walk here.
-/
namespace Go.Proofs.YtaghilgfldaaiaaGreatDoor
namespace At
open Go.RowKit Lw Ap Go.Proofs.YtaghilgfldaaiaaGreatDoor.Mp Go.Proofs.YtaghilgfldaaiaaGreatDoor.Mw

/-! ### Strings as lists -/
abbrev l10 (a b c d e f g h : UInt8) (r : List UInt8) : List UInt8 := a :: b :: c :: d :: 32 :: e :: f :: 32 :: g :: h :: r
/-! ### The parts of such a string -/
end At
end Go.Proofs.YtaghilgfldaaiaaGreatDoor
/-
  The walks of the reference's texts of observations: spaces, behind.
-/
namespace Go.Proofs.YtaghilgfldaaiaaGreatDoor
namespace Ow
open Go.RowKit Lw Go.Proofs.YtaghilgfldaaiaaGreatDoor.Ap Go.Proofs.YtaghilgfldaaiaaGreatDoor.Op Go.Proofs.YtaghilgfldaaiaaGreatDoor.Mp Go.Proofs.YtaghilgfldaaiaaGreatDoor.Mw Go.Proofs.YtaghilgfldaaiaaGreatDoor.At

def lenOfV : Value → Nat
  | .string s => s.size
  | _ => 0
end Ow
end Go.Proofs.YtaghilgfldaaiaaGreatDoor
/-
  Plain law: a string cut at each of one byte; no walk here.
-/
namespace Go.Proofs.YtaghilgfldaaiaaGreatDoor
namespace Vp
open Go.RowKit Lw

theorem pieces_join (c : UInt8) : ∀ (l : List (List UInt8)), l ≠ [] → (∀ p ∈ l, c ∉ p) → pieces c (joinC c l) = l
  | [], h, _ => absurd rfl h
  | [a], _, g => by rw [joinC_one, pieces_none (g a (List.mem_cons_self ..))]
  | a :: b :: l, _, g => by
    rw [joinC_cons, pieces_cut _ (g a (List.mem_cons_self ..)), pieces_join c (b :: l) (by simp) (fun p hp => g p (List.mem_cons_of_mem _ hp))]
end Vp
end Go.Proofs.YtaghilgfldaaiaaGreatDoor
/-
  Plain law of tables: what is printed, what is read; no walk here.
-/
namespace Go.Proofs.YtaghilgfldaaiaaGreatDoor
namespace Vp
open Go.RowKit Lw Go.Proofs.YtaghilgfldaaiaaGreatDoor.Ap Go.Proofs.YtaghilgfldaaiaaGreatDoor.Op Go.Proofs.YtaghilgfldaaiaaGreatDoor.Mp Go.Proofs.YtaghilgfldaaiaaGreatDoor.Mw Go.Proofs.YtaghilgfldaaiaaGreatDoor.At

/-! ### Fields without separators -/
theorem cl_app {a b : List UInt8} (h : cl a) (g : cl b) : cl (a ++ b) := fun c hc => by
  rcases List.mem_append.1 hc with hc | hc
  · exact h c hc
  · exact g c hc
theorem cl_cons {a : UInt8} {b : List UInt8} (h : a ≠ 10 ∧ a ≠ 124) (g : cl b) : cl (a :: b) := fun c hc => by
  rcases List.mem_cons.1 hc with rfl | hc
  · exact h
  · exact g c hc
theorem cl_nil : cl [] := fun c hc => by simp at hc
theorem cl_one {c : UInt8} (h0 : 33 ≤ (c.toNat : Int)) (h1 : (c.toNat : Int) ≠ 124) : c ≠ 10 ∧ c ≠ 124 := ⟨u_ne (k := 10) (by omega) (by omega), u_ne (k := 124) (by omega) h1⟩
theorem cl_bd {l : List UInt8} (h : ∀ c ∈ l, 33 ≤ (c.toNat : Int) ∧ (c.toNat : Int) ≤ 123) : cl l := fun c hc => cl_one (h c hc).1 (by have := (h c hc).2; omega)
theorem cl_alld {l : List UInt8} (h : Gp.allD l) : cl l := cl_bd fun c hc => by have := h c hc; omega
theorem cl_alld2 {l : List UInt8} (h : Ap.allD l) : cl l := cl_bd fun c hc => by have := h c hc; omega
theorem cl_word {l : List UInt8} (h : wordP l) : cl l := cl_bd fun c hc => by
  have := h c hc
  unfold dgP ltP at this
  omega
theorem cl_name {s : ByteArray} (h : nameP s) : cl s.data.toList := by
  rcases h with ⟨z, h⟩ | ⟨_, _, h⟩
  · rw [list_split s 5 z 1 (by omega)]
    have one : ∃ c, (s.extract 0 1).data.toList = [c] ∧ bt s 0 = (c.toNat : Int) := ⟨s[0]'(by omega), by
      simp only [ByteArray.data_extract, Array.toList_extract, List.extract_eq_take_drop, List.drop_zero, Nat.sub_zero]
      have l : s.data.toList.length = 5 := z
      have e : s.data.toList = (s.data.toList[0]'(by omega)) :: s.data.toList.drop 1 := by
        rw [← List.drop_eq_getElem_cons (by omega)]
        rfl
      rw [e]
      rfl, bt_of s 0 (by omega)⟩
    obtain ⟨c, e, b⟩ := one
    rcases h with ⟨h1, h2⟩ | ⟨h1, h2⟩
    · refine cl_app ?_ (cl_word h2)
      rw [e]
      exact cl_cons (cl_one (by omega) (by omega)) cl_nil
    · exact cl_app (cl_word h1) (cl_alld2 h2.2)
  · exact cl_word h
theorem cl_itoa {n : Int} (h : 0 ≤ n) : cl (Lib.itoa n) := by
  obtain ⟨m, rfl⟩ := Int.eq_ofNat_of_zero_le h
  exact cl_alld (itoa_d m)
theorem cl_pad (r d : Nat) : cl (Gt.padL (r : Int) d) := cl_app (cl_alld (Gt.rep_num _).2) (cl_alld (itoa_d r))
theorem cl_deg (a : Int) (d : Nat) : cl (Gt.degL a d) := by
  have b : ∀ N, cl (Gt.degB N d) := fun N => cl_app (cl_alld (itoa_d _)) (cl_cons (by decide) (cl_pad _ _))
  unfold Gt.degL
  split
  · exact cl_cons (by decide) (b _)
  · exact b _
theorem cl_text {t : Int} {T : ByteArray} (h : TextIs t 6 T 0) : cl T.data.toList := by
  have d : ∀ k n, cl (decL n k) := fun k n => cl_alld2 (decL_num k n).2
  rcases h with ⟨_, _, c⟩ | ⟨_, _, _, _, c⟩ | ⟨_, _, _, _, n, y, m, z, k, _, hs, _⟩
  · omega
  · omega
  · rw [hs, text_L]
    refine cl_app (d _ _) (cl_cons (by decide) (cl_app (d _ _) (cl_cons (by decide) (cl_app (d _ _) (cl_cons (by decide) (cl_app (d _ _) (cl_cons (by decide) (cl_app (d _ _) (cl_cons (by decide) (cl_app (d _ _) (cl_app ?_ (cl_cons (by decide) cl_nil))))))))))))
    split
    · exact cl_cons (by decide) (fun c hc => d _ _ c (List.mem_of_mem_take hc))
    · exact cl_nil
theorem cl_dg (n : Nat) (h : n < 10) : dg n ≠ 10 ∧ dg n ≠ 124 := cl_one (by have := dg_of n h; omega) (by have := dg_of n h; omega)
theorem cl_mag (m : Int) : cl (Vp.magF m) := by
  unfold Vp.magF
  split
  · exact cl_nil
  · rw [magB_list]
    refine cl_app ?_ (cl_app (cl_alld (itoa_d _)) (cl_cons (by decide) (cl_cons (cl_dg _ (Nat.mod_lt _ (by omega))) (cl_cons (cl_dg _ (Nat.mod_lt _ (by omega))) cl_nil))))
    split
    · exact cl_cons (by decide) cl_nil
    · exact cl_nil
theorem cl_band {m b : Int} (h : magP m b) : cl (bandF b) := by
  unfold bandF
  split
  · exact cl_nil
  · rename_i hb
    have h2 : ltP b := by
      rcases h with ⟨_, h⟩ | ⟨_, _, h | h⟩
      · exact absurd h hb
      · exact absurd h hb
      · exact h
    have e : ((UInt8.ofNat b.toNat).toNat : Int) = b := by
      unfold ltP at h2
      rw [UInt8.toNat_ofNat']
      omega
    unfold ltP at h2
    exact cl_cons (cl_one (by omega) (by omega)) cl_nil
theorem fields_cl {o : Ob} {T : ByteArray} (ok : okO o) (hT : TextIs o.t 6 T 0) : ∀ s ∈ fieldL o T, cl s.data.toList := by
  obtain ⟨ot, on, os, ow, or0, or1, od0, od1, og0, og1, om⟩ := ok
  intro s hs
  unfold fieldL at hs
  simp only [List.mem_cons, List.not_mem_nil, or_false] at hs
  rcases hs with rfl | rfl | rfl | rfl | rfl | rfl | rfl | rfl
  · exact cl_name on
  · exact cl_word ow
  · exact cl_text hT
  · exact cl_deg _ _
  · exact cl_deg _ _
  · exact cl_itoa (by omega)
  · exact cl_mag _
  · exact cl_band om

/-! ### Tables -/
theorem flatL_join : ∀ (l : List (List UInt8)), l ≠ [] → flatL l = joinC 10 l ++ [10]
  | [], h => absurd rfl h
  | [a], _ => by rw [joinC_one]; simp [flatL]
  | a :: b :: l, _ => by
    have ih := flatL_join (b :: l) (by simp)
    rw [joinC_cons]
    show (a ++ [10]) ++ flatL (b :: l) = _
    rw [ih]
    simp
/-! ### What is printed is read back -/
theorem head_n10 : (10 : UInt8) ∉ headL := by decide
theorem head_read : headR headL = some [0, 1, 2, 3, 4, 5, 6, 7] := by decide
theorem noteR_back : ∀ {notes : List ByteArray} (rows : List (List UInt8)), (∀ s ∈ notes, noteP s) → noteR (linesL notes rows) = some (notes, headL :: rows)
  | [], rows, _ => by
    show noteR (headL :: rows) = _
    rw [noteR, if_neg (by decide)]
  | s :: notes, rows, h => by
    obtain ⟨h1, h2, _⟩ := note_read (h s (List.mem_cons_self ..))
    have ih := noteR_back rows (fun x hx => h x (List.mem_cons_of_mem _ hx))
    show noteR (noteL s :: linesL notes rows) = _
    rw [noteR, if_pos h1, h2, if_pos (h s (List.mem_cons_self ..)), ih]
    rfl
theorem row_pieces {o : Ob} {r : List UInt8} (ok : okO o) (h : RowTx o r) : ∃ T, TextIs o.t 6 T 0 ∧ pieces 124 r = (fieldL o T).map (·.data.toList) := by
  obtain ⟨T, hT, rfl⟩ := h
  refine ⟨T, hT, pieces_join 124 _ (by unfold fieldL; simp) fun p hp => ?_⟩
  obtain ⟨s, hs, rfl⟩ := List.mem_map.1 hp
  exact fun g => ((fields_cl ok hT s hs) 124 g).2 rfl
theorem row_back {o : Ob} {r : List UInt8} (ok : okO o) (h : RowTx o r) : rowX [0, 1, 2, 3, 4, 5, 6, 7] r = some (roundP o) := by
  obtain ⟨T, hT, e⟩ := row_pieces ok h
  unfold rowX
  rw [e, List.map_map]
  exact row_round ok hT
theorem row_clean {o : Ob} {r : List UInt8} (ok : okO o) (h : RowTx o r) : 10 ∉ r := by
  obtain ⟨T, hT, rfl⟩ := h
  have j : ∀ l : List (List UInt8), (∀ p ∈ l, 10 ∉ p) → 10 ∉ joinC 124 l := by
    intro l
    induction l with
    | nil => intro _ g; cases g
    | cons a l ih =>
      intro hl g
      cases l with
      | nil => rw [joinC_one] at g; exact hl a (List.mem_cons_self ..) g
      | cons b l =>
        rw [joinC_cons] at g
        rcases List.mem_append.1 g with g | g
        · exact hl a (List.mem_cons_self ..) g
        · rcases List.mem_cons.1 g with g | g
          · exact absurd g (by decide)
          · exact ih (fun p hp => hl p (List.mem_cons_of_mem _ hp)) g
  refine j _ fun p hp => ?_
  obtain ⟨s, hs, rfl⟩ := List.mem_map.1 hp
  exact fun g => ((fields_cl ok hT s hs) 10 g).1 rfl
theorem rowsR_back : ∀ {l : List Ob} {rows : List (List UInt8)}, RowsTx l rows → (∀ o ∈ l, okO o) → rowsR [0, 1, 2, 3, 4, 5, 6, 7] rows = some (l.map roundP)
  | [], [], _, _ => rfl
  | [], _ :: _, h, _ => by have := h.1; simp at this
  | _ :: _, [], h, _ => by have := h.1; simp at this
  | o :: l, r :: rows, h, ok => by
    have h0 : RowTx o r := h.2 0 (by simp) (by simp)
    have hr : RowsTx l rows := ⟨by have := h.1; simpa using this, fun i hi gi => by have := h.2 (i + 1) (by simpa using hi) (by simpa using gi); simpa using this⟩
    rw [rowsR, row_back (ok o (List.mem_cons_self ..)) h0]
    show (rowsR _ rows).map _ = _
    rw [rowsR_back hr (fun x hx => ok x (List.mem_cons_of_mem _ hx))]
    rfl
theorem rows_clean : ∀ {l : List Ob} {rows : List (List UInt8)}, RowsTx l rows → (∀ o ∈ l, okO o) → ∀ r ∈ rows, 10 ∉ r := fun {l rows} h ok r hr => by
  obtain ⟨i, hi, rfl⟩ := List.getElem_of_mem hr
  have hl : i < l.length := by rw [← h.1]; exact hi
  exact row_clean (ok _ (List.getElem_mem hl)) (h.2 i hl hi)
theorem lines_clean {notes : List ByteArray} {l : List Ob} {rows : List (List UInt8)} (hn : ∀ s ∈ notes, noteP s) (h : RowsTx l rows) (ok : ∀ o ∈ l, okO o) : ∀ x ∈ linesL notes rows, 10 ∉ x := by
  intro x hx
  rcases List.mem_append.1 hx with hx | hx
  · obtain ⟨s, hs, rfl⟩ := List.mem_map.1 hx
    exact (note_read (hn s hs)).2.2.1
  · rcases List.mem_cons.1 hx with rfl | hx
    · exact head_n10
    · exact rows_clean h ok x hx
/-- What Print prints, Parse reads: the notes, and the rounded observations. -/
theorem tab_back {notes : List ByteArray} {l : List Ob} {rows : List (List UInt8)} {s : ByteArray} (hn : checkN notes = 0) (hl : allC l = 0) (h : RowsTx l rows) (hs : s.data.toList = flatL (linesL notes rows)) : ParseTIs s notes (l.map roundP) 0 := by
  obtain ⟨n1, n2⟩ := checkN_ok hn
  obtain ⟨l1, l2⟩ := allC_ok hl
  have ne : linesL notes rows ≠ [] := by unfold linesL; simp
  refine Or.inl ⟨joinC 10 (linesL notes rows), by rw [hs, flatL_join _ ne], ?_, n1, by rw [List.length_map]; exact l1, rfl⟩
  rw [pieces_join 10 _ ne (lines_clean n2 h l2)]
  unfold tabR
  rw [noteR_back rows n2]
  show ((headR headL).bind fun order => (rowsR order rows).map fun m => (notes, m)) = _
  rw [head_read]
  show (rowsR _ rows).map _ = _
  rw [rowsR_back h l2]
  rfl
end Vp
end Go.Proofs.YtaghilgfldaaiaaGreatDoor
/-
  Slices of observations; the walks of checkAll of obs, and of All, Same of the reference.
-/
namespace Go.Proofs.YtaghilgfldaaiaaGreatDoor
namespace Ow
open Go.RowKit Lw Go.Proofs.YtaghilgfldaaiaaGreatDoor.Ap Go.Proofs.YtaghilgfldaaiaaGreatDoor.Op Go.Proofs.YtaghilgfldaaiaaGreatDoor.Mp Go.Proofs.YtaghilgfldaaiaaGreatDoor.Mw Go.Proofs.YtaghilgfldaaiaaGreatDoor.At

set_option maxRecDepth 100000 in
set_option maxHeartbeats 8000000 in
theorem rall_any (x : Option Addr) (cap : Nat) (l : List Ob) (w : World) (hl : SlA w x l) (hm : l.length ≤ 1000000) (hb : OBs l) :
    Calls Tryz.prog 21 #[.slice x l.length cap] w fun e w' => e = .returned (.int .i64 (allC l)) ∧ Below w.heap.size w w' := by
  have HL := Lib.hid (fun w' (h : Below w.heap.size w w') => hl.below h)
  have CK := Lib.hid (fun i (h : i < l.length) w' => rcheck_any (l[i]'h) w' (hb i h).t0 (hb i h).t1 (hb i h).b0 (hb i h).b1 (hb i h).n1 (hb i h).n2)
  obtain ⟨n, hnl⟩ : ∃ n, l.length = n := ⟨_, rfl⟩
  have GM : Hid (500 < n → allC l = 4) := Lib.hid (fun h => allC_many (by omega))
  have GB : Hid (n ≤ 500 → ∀ i (h : i < l.length), ¬ okO (l[i]'h) → allC l = 8) := Lib.hid (fun a i h g => allC_bad (by omega) h g)
  have GZ : Hid (n ≤ 500 → (∀ i (h : i < l.length), okO (l[i]'h)) → allC l = 0) := Lib.hid (fun a g => allC_zero (by omega) (fun o ho => by
    obtain ⟨i, hi, rfl⟩ := List.getElem_of_mem ho
    exact g i hi))
  generalize allC l = K at *
  rw [hnl] at hm ⊢
  have NL := Lib.hid hnl
  clear hl hb hnl
  by_cases h5 : 500 < n
  · have h5' : (500 : Int) < (n : Int) := by omega
    obtain rfl := GM.out h5
    clear CK GM GB GZ HL NL
    go_enter Tryz.func21, Tryz.ntmps21
    go_wp2_with fail
    go_ret
    exact ⟨rfl, Below.refl _ _⟩
  · have h5' : ¬ (500 : Int) < (n : Int) := by omega
    clear GM
    go_enter Tryz.func21, Tryz.ntmps21
    go_wp2_with fail
    go_loopw [3] (fun i wr => ∃ k : Nat, k ≤ n ∧ i = .int .i64 k ∧ Hid (∀ j (h : j < l.length), j < k → okO (l[j]'h)) ∧ Hid (Below w.heap.size w wr)) (fun i _ => n - (intOf i).toNat)
    case atStart => exact ⟨0, Nat.zero_le _, rfl, Lib.hid (fun j _ h => by omega), Lib.hid (Below.refl _ _)⟩
    case round =>
      obtain ⟨k, hk, rfl, D, B⟩ := hrel
      by_cases hlt : k < n
      · have hkl : k < l.length := by rw [NL.out]; exact hlt
        obtain ⟨b, off, rfl, lt, row⟩ := (HL.out _ B.out).get hkl
        have R := Lib.hid (row k hkl)
        have CKk := Lib.hid (CK.out k hkl)
        have GBk := Lib.hid (fun (g : ¬ okO (l[k]'hkl)) => GB.out (by omega) k hkl g)
        have DK := Lib.hid (fun (g : okO (l[k]'hkl)) => (show ∀ j (h : j < l.length), j < k + 1 → okO (l[j]'h) from fun j h hj => by
          by_cases e : j = k
          · subst e; exact g
          · exact D.out j h (by omega)))
        have i1 : (k : Int) < (n : Int) := by omega
        clear D GB GZ row lt CK
        generalize l[k]'hkl = o at *
        go_wp2_with (refine wpList_load_mid rfl _ (.tmp 15) rfl b (off + k * 8) rfl (obsC o) _ R.out Tryz.underlying33 rfl info8 ?_)
        refine (CKk.out _).mono ?_
        rintro e w2 ⟨rfl, hb2⟩
        have B2 := Lib.hid (below_then B.out hb2)
        clear hb2 B CKk R
        by_cases ok : okO o
        · rw [show checkC o = 0 from if_pos ok]
          have D2 := Lib.hid (DK.out ok)
          clear DK GBk
          go_wp2_with fail
          go_roundw
          case rel => exact ⟨k + 1, by omega, by go_num, D2, B2⟩
          case measure => simp [intOf]; omega
        · rw [show checkC o = 8 from if_neg ok]
          obtain rfl := GBk.out ok
          clear DK
          go_wp2_with fail
          go_ret
          exact ⟨rfl, B2.out⟩
      · obtain rfl : k = n := by omega
        obtain rfl := GZ.out (by omega) (fun i hi => D.out i hi (by have := NL.out; omega))
        clear GZ D GB HL CK
        go_wp2_with fail
        go_ret
        exact ⟨rfl, B.out⟩
end Ow
end Go.Proofs.YtaghilgfldaaiaaGreatDoor
/-
  The walks of the reference's trim, note, Check, SameTexts and GreatNotes.
-/
namespace Go.Proofs.YtaghilgfldaaiaaGreatDoor
namespace Vw
open Go.RowKit Lw Go.Proofs.YtaghilgfldaaiaaGreatDoor.Ap Go.Proofs.YtaghilgfldaaiaaGreatDoor.Vp Go.Proofs.YtaghilgfldaaiaaGreatDoor.Op Go.Proofs.YtaghilgfldaaiaaGreatDoor.Ow Go.Proofs.YtaghilgfldaaiaaGreatDoor.Mp Go.Proofs.YtaghilgfldaaiaaGreatDoor.Mw Go.Proofs.YtaghilgfldaaiaaGreatDoor.At

theorem byte_list {t : ByteArray} {k : Nat} (h : k < t.size) : t.data.toList[k]? = some (t[k]'h) := by
  have e : (t[k]'h) = t.data.toList[k]'h := rfl
  rw [e]
  exact List.getElem?_eq_getElem _
theorem ext_tail (t : ByteArray) : (t.extract 1 t.size).data.toList = t.data.toList.drop 1 := by
  simp only [ByteArray.data_extract, Array.toList_extract, List.extract_eq_take_drop]
  rw [List.take_of_length_le (by rw [List.length_drop]; exact Nat.le_refl _)]
theorem ext_init (t : ByteArray) : (t.extract 0 (t.size - 1)).data.toList = t.data.toList.take (t.size - 1) := by
  simp only [ByteArray.data_extract, Array.toList_extract, List.extract_eq_take_drop, List.drop_zero, Nat.sub_zero]
theorem trimL_step {t : ByteArray} (h : 0 < t.size) (g : ((t[0]'h).toNat : Int) = 32) : Lib.trimLeftB (t.extract 1 t.size).data.toList 32 = Lib.trimLeftB t.data.toList 32 := by
  have e := byte_list h
  rw [ext_tail]
  have c : (t[0]'h) = 32 := UInt8.toNat_inj.1 (by have : (32 : UInt8).toNat = 32 := rfl; omega)
  rw [c] at e
  generalize t.data.toList = l at *
  cases l with
  | nil => cases e
  | cons a l =>
    have : a = 32 := by simpa using e
    subst this
    unfold Lib.trimLeftB
    rw [List.drop_one, List.tail_cons, List.dropWhile_cons]
    simp
theorem trimL_stop {t : ByteArray} (h : ∀ g : 0 < t.size, ((t[0]'g).toNat : Int) ≠ 32) : Lib.trimLeftB t.data.toList 32 = t.data.toList := by
  have z : t.data.toList.length = t.size := rfl
  have b : ∀ g : 0 < t.size, t.data.toList[0]? = some (t[0]'g) := fun g => byte_list g
  generalize t.data.toList = l at *
  cases l with
  | nil => rfl
  | cons a l =>
    have g : 0 < t.size := by rw [← z]; simp
    have e := b g
    have : a = (t[0]'g) := by simpa using e
    unfold Lib.trimLeftB
    rw [List.dropWhile_cons, if_neg]
    intro k
    have k : a = 32 := by simpa using k
    refine h g ?_
    rw [← this, k]
    rfl
theorem last_split {t : ByteArray} (h : 0 < t.size) : t.data.toList = (t.extract 0 (t.size - 1)).data.toList ++ [t[t.size - 1]'(by omega)] := by
  have z : t.data.toList.length = t.size := rfl
  rw [ext_init]
  have e : (t[t.size - 1]'(by omega)) = t.data.toList[t.size - 1]'(by omega) := rfl
  rw [e]
  have := List.take_append_getElem (l := t.data.toList) (i := t.size - 1) (by omega)
  rw [this, List.take_of_length_le (by omega)]
theorem trimR_step {t : ByteArray} (h : 0 < t.size) (g : ((t[t.size - 1]'(by omega)).toNat : Int) = 32) : Lib.trimRightB (t.extract 0 (t.size - 1)).data.toList 32 = Lib.trimRightB t.data.toList 32 := by
  have c : (t[t.size - 1]'(by omega)) = 32 := UInt8.toNat_inj.1 (by have : (32 : UInt8).toNat = 32 := rfl; omega)
  rw [last_split h, c]
  exact (trimR_all (l := (t.extract 0 (t.size - 1)).data.toList) 1).symm
theorem trimR_stop {t : ByteArray} (h : ∀ g : 0 < t.size, ((t[t.size - 1]'(by omega)).toNat : Int) ≠ 32) : Lib.trimRightB t.data.toList 32 = t.data.toList := by
  by_cases g : 0 < t.size
  · have n : (t[t.size - 1]'(by omega)) ≠ 32 := fun e => h g (by rw [e]; rfl)
    have e := last_split g
    rw [e]
    exact trimR_snoc n
  · have z : t.data.toList.length = t.size := rfl
    have e : t.data.toList = [] := List.length_eq_zero_iff.1 (by omega)
    rw [e]
    rfl
theorem trim_comm (l : List UInt8) : Lib.trimRightB (Lib.trimLeftB l 32) 32 = Lib.trimB l 32 := by
  unfold Lib.trimB Lib.trimLeftB Lib.trimRightB
  induction l with
  | nil => rfl
  | cons a l ih =>
    rw [List.dropWhile_cons]
    by_cases h : a = 32
    · subst h
      rw [if_pos (by rfl), ih, List.reverse_cons, List.dropWhile_append]
      by_cases e : (l.reverse.dropWhile (· == 32)).isEmpty = true
      · rw [if_pos e]
        have e : l.reverse.dropWhile (· == 32) = [] := by simpa using e
        rw [e]
        rfl
      · rw [if_neg e, List.reverse_append]
        simp
    · rw [if_neg (by simpa using h), List.reverse_cons, List.dropWhile_append]
      by_cases e : (l.reverse.dropWhile (· == 32)).isEmpty = true
      · rw [if_pos e]
        have : ([a].dropWhile (· == 32)) = [a] := by rw [List.dropWhile_cons, if_neg (by simpa using h)]
        rw [this]
        simp [h]
      · rw [if_neg e, List.reverse_append]
        simp [h]
set_option maxRecDepth 100000 in
set_option maxHeartbeats 4000000 in
theorem rtrim27_any (s : ByteArray) (w : World) (hs : s.size ≤ maxLen) : Calls Tryz.prog 107 #[.string s] w fun e w' => e = .returned (.string (trimS s)) ∧ w = w' := by
  unfold maxLen at hs
  go_enter Tryz.func107, Tryz.ntmps107
  go_wp2
  go_loop [0] (fun v => ∃ t : ByteArray, v = .string t ∧ t.size ≤ s.size ∧ Hid (Lib.trimLeftB t.data.toList 32 = Lib.trimLeftB s.data.toList 32)) (fun v => lenOfV v)
  case atStart => exact ⟨s, rfl, Nat.le_refl _, Lib.hid rfl⟩
  case round =>
    obtain ⟨t, rfl, ht, E⟩ := hrel
    by_cases h : 0 < t.size
    · by_cases g : ((t[0]'h).toNat : Int) = 32
      · have E2 := Lib.hid ((trimL_step h g).trans E.out)
        have h' : (0 : Int) < (t.size : Int) := by omega
        have bb := byte_bd t[0]
        have zz : (t.extract 1 t.size).size = t.size - 1 := by rw [ByteArray.size_extract]; omega
        go_wp2
        go_round
        case rel => exact ⟨_, rfl, by omega, E2⟩
        case measure => simp [lenOfV, zz] <;> omega
      · have h' : (0 : Int) < (t.size : Int) := by omega
        have bb := byte_bd t[0]
        have HS : ∀ g : 0 < t.size, ((t[0]'g).toNat : Int) ≠ 32 := fun _ => g
        have E2 := Lib.hid (show trimS s = stL (Lib.trimRightB t.data.toList 32) from by
          have e := E.out
          rw [trimL_stop HS] at e
          unfold trimS
          rw [e, trim_comm])
        clear E HS
        go_wp2
        go_loop [0] (fun v => ∃ u : ByteArray, v = .string u ∧ u.size ≤ t.size ∧ Hid (Lib.trimRightB u.data.toList 32 = Lib.trimRightB t.data.toList 32)) (fun v => lenOfV v)
        case atStart => exact ⟨t, rfl, Nat.le_refl _, Lib.hid rfl⟩
        case round =>
          obtain ⟨u, rfl, hu, F⟩ := hrel
          by_cases k : 0 < u.size
          · have k' : (0 : Int) < (u.size : Int) := by omega
            have kn : ((u.size : Int) - 1).toNat = u.size - 1 := by omega
            have kl : u.size - 1 < u.size := by omega
            have bb := byte_bd u[u.size - 1]
            have zz : (u.extract 0 (u.size - 1)).size = u.size - 1 := by rw [ByteArray.size_extract]; omega
            by_cases c : ((u[u.size - 1]'(by omega)).toNat : Int) = 32
            · have F2 := Lib.hid ((trimR_step k c).trans F.out)
              clear F
              go_wp2
              go_round
              case rel => exact ⟨_, rfl, by omega, F2⟩
              case measure => simp [lenOfV, zz] <;> omega
            · have F2 := Lib.hid (show trimS s = u from by
                rw [E2.out, ← F.out, trimR_stop (fun _ => c)]; all_goals rfl)
              clear F
              go_wp2
              go_ret
              exact ⟨by rw [F2.out]; all_goals rfl, rfl⟩
          · have k' : ¬ (0 : Int) < (u.size : Int) := by omega
            have F2 := Lib.hid (show trimS s = u from by
              rw [E2.out, ← F.out, trimR_stop (fun g => absurd g k)]; all_goals rfl)
            clear F
            go_wp2
            go_ret
            exact ⟨by rw [F2.out]; all_goals rfl, rfl⟩
    · have h' : ¬ (0 : Int) < (t.size : Int) := by omega
      have HS : ∀ g : 0 < t.size, ((t[0]'g).toNat : Int) ≠ 32 := fun g => absurd g h
      have E2 := Lib.hid (show trimS s = stL (Lib.trimRightB t.data.toList 32) from by
        have e := E.out
        rw [trimL_stop HS] at e
        unfold trimS
        rw [e, trim_comm])
      clear E HS
      go_wp2
      go_loop [0] (fun v => ∃ u : ByteArray, v = .string u ∧ u.size ≤ t.size ∧ Hid (Lib.trimRightB u.data.toList 32 = Lib.trimRightB t.data.toList 32)) (fun v => lenOfV v)
      case atStart => exact ⟨t, rfl, Nat.le_refl _, Lib.hid rfl⟩
      case round =>
        obtain ⟨u, rfl, hu, F⟩ := hrel
        by_cases k : 0 < u.size
        · have k' : (0 : Int) < (u.size : Int) := by omega
          have kn : ((u.size : Int) - 1).toNat = u.size - 1 := by omega
          have kl : u.size - 1 < u.size := by omega
          have bb := byte_bd u[u.size - 1]
          have zz : (u.extract 0 (u.size - 1)).size = u.size - 1 := by rw [ByteArray.size_extract]; omega
          by_cases c : ((u[u.size - 1]'(by omega)).toNat : Int) = 32
          · have F2 := Lib.hid ((trimR_step k c).trans F.out)
            clear F
            go_wp2
            go_round
            case rel => exact ⟨_, rfl, by omega, F2⟩
            case measure => simp [lenOfV, zz] <;> omega
          · have F2 := Lib.hid (show trimS s = u from by
              rw [E2.out, ← F.out, trimR_stop (fun _ => c)]; all_goals rfl)
            clear F
            go_wp2
            all_goals go_ret
            all_goals exact ⟨by rw [F2.out]; all_goals rfl, rfl⟩
        · have k' : ¬ (0 : Int) < (u.size : Int) := by omega
          have F2 := Lib.hid (show trimS s = u from by
            rw [E2.out, ← F.out, trimR_stop (fun g => absurd g k)]; all_goals rfl)
          clear F
          go_wp2
          go_ret
          exact ⟨by rw [F2.out]; all_goals rfl, rfl⟩
set_option maxRecDepth 100000 in
set_option maxHeartbeats 4000000 in
theorem rnote_any (s : ByteArray) (w : World) (hs : s.size ≤ maxLen) :
    Calls Tryz.prog 61 #[.string s] w fun e w' => e = .returned (.bool (decide (noteP s))) ∧ w = w' := by
  have zl : s.data.toList.length = s.size := rfl
  have TR := Lib.hid (fun w' => rtrim27_any s w' hs)
  unfold maxLen at hs
  have NO : Hid (∀ c ∈ s.data.toList, (c.toNat : Int) < 32 ∨ 126 < (c.toNat : Int) → decide (noteP s) = false) := Lib.hid (fun c hc h => decide_eq_false (fun g => by have := g.1 c hc; omega))
  have NL : Hid (100 < s.size → decide (noteP s) = false) := Lib.hid (fun h => decide_eq_false (fun g => by have := g.2.1; omega))
  have NT : Hid (trimS s ≠ s → decide (noteP s) = false) := Lib.hid (fun h => decide_eq_false (fun g => h g.2.2))
  have YES : Hid (prP (s.data.toList.take s.size) → s.size ≤ 100 → trimS s = s → decide (noteP s) = true) := Lib.hid (fun a b c => by
    rw [List.take_of_length_le (by omega)] at a
    exact decide_eq_true ⟨a, b, c⟩)
  obtain ⟨T, hT⟩ : ∃ T, trimS s = T := ⟨_, rfl⟩
  rw [hT] at TR NT YES
  clear hT
  generalize decide (noteP s) = D at *
  go_enter Tryz.func61, Tryz.ntmps61
  go_wp2_with fail
  go_loopw [3] (fun i wr => ∃ k : Nat, k ≤ s.size ∧ i = .int .i64 k ∧ w = wr ∧ Hid (prP (s.data.toList.take k))) (fun i _ => s.size - (intOf i).toNat)
  case atStart => exact ⟨0, Nat.zero_le _, rfl, rfl, Lib.hid (by intro c hc; simp at hc)⟩
  case round =>
    obtain ⟨k, hk, rfl, rfl, P⟩ := hrel
    by_cases hlt : k < s.size
    · have bb := byte_bd s[k]
      have i1 : (k : Int) < (s.size : Int) := by omega
      have hm : (s[k]'hlt) ∈ s.data.toList := by
        have : (s[k]'hlt) = s.data.toList[k]'(by omega) := rfl
        rw [this]
        exact List.getElem_mem _
      by_cases c1 : (s[k].toNat : Int) < 32
      · obtain rfl := NO.out _ hm (Or.inl c1)
        clear NO NL NT YES hm TR
        go_wp2_with fail
        go_ret
        exact ⟨rfl, rfl⟩
      · by_cases c2 : (126 : Int) < (s[k].toNat : Int)
        · obtain rfl := NO.out _ hm (Or.inr c2)
          clear NO NL NT YES hm TR
          go_wp2_with fail
          go_ret
          exact ⟨rfl, rfl⟩
        · have P2 := Lib.hid (show prP (s.data.toList.take (k + 1)) by rw [take_snoc s k hlt]; exact prP_snoc P.out (by omega) (by omega))
          clear NO NL NT YES hm TR P
          go_wp2_with fail
          go_roundw
          case rel => exact ⟨k + 1, by omega, by go_num, by first | rfl | trivial, P2⟩
          case measure => simp [intOf] <;> omega
    · obtain rfl : k = s.size := by omega
      by_cases h1 : s.size ≤ 100
      · have i1 : (s.size : Int) ≤ 100 := by omega
        clear NO NL
        go_wp2_with fail
        refine (TR.out _).mono ?_
        rintro e w2 ⟨rfl, rfl⟩
        clear TR
        by_cases ht : T = s
        · obtain rfl := YES.out P.out h1 ht
          have t1 : (T.toList == s.toList) = true := by rw [ht]; exact beq_self_eq_true _
          clear NT YES ht
          go_wp2_with fail
          go_ret
          exact ⟨rfl, rfl⟩
        · obtain rfl := NT.out ht
          have t1 : (T.toList == s.toList) = false := beq_eq_false_iff_ne.2 (fun h => ht (by rw [ByteArray.toList_eq, ByteArray.toList_eq] at h; exact toL_inj h))
          clear ht
          clear NT YES
          go_wp2_with fail
          go_ret
          exact ⟨rfl, rfl⟩
      · have i1 : ¬ (s.size : Int) ≤ 100 := by omega
        obtain rfl := NL.out (by omega)
        clear NO NL NT YES TR
        go_wp2_with fail
        go_ret
        exact ⟨rfl, rfl⟩
theorem StA.get1 {w : World} {x : Option Addr} {l : List ByteArray} (h : StA w x l) {i : Nat} (hi : i < l.length) : ∃ b off, x = some ⟨b, off, none⟩ ∧ b < w.heap.size ∧ w.cell? ⟨b, off + i, none⟩ = some (.string (l[i]'hi)) := by
  rcases h with rfl | ⟨b, off, h1, h2, h3⟩
  · simp at hi
  · exact ⟨b, off, h1, h2, h3 i hi⟩
set_option maxRecDepth 100000 in
set_option maxHeartbeats 4000000 in
theorem rcheckn_any (x : Option Addr) (cap : Nat) (l : List ByteArray) (w : World) (hl : StA w x l) (hs : SzS l) (hm : l.length ≤ 1000000) :
    Calls Tryz.prog 23 #[.slice x l.length cap] w fun e w' => e = .returned (.int .i64 (checkN l)) ∧ w = w' := by
  have HL := Lib.hid hl
  have CK := Lib.hid (fun i (h : i < l.length) w' => rnote_any (l[i]'h) w' (hs.get i h))
  obtain ⟨n, hnl⟩ : ∃ n, l.length = n := ⟨_, rfl⟩
  have GM : Hid (50 < n → checkN l = 4) := Lib.hid (fun h => checkN_many (by omega))
  have GB : Hid (n ≤ 50 → ∀ i (h : i < l.length), ¬ noteP (l[i]'h) → checkN l = 8) := Lib.hid (fun a i h g => checkN_bad (by omega) (fun k => g (k _ (List.getElem_mem h))))
  have GZ : Hid (n ≤ 50 → (∀ i (h : i < l.length), noteP (l[i]'h)) → checkN l = 0) := Lib.hid (fun a g => checkN_zero (by omega) (fun o ho => by
    obtain ⟨i, hi, rfl⟩ := List.getElem_of_mem ho
    exact g i hi))
  generalize checkN l = K at *
  rw [hnl] at hm ⊢
  have NL := Lib.hid hnl
  clear hl hs hnl
  by_cases h5 : 50 < n
  · have h5' : (50 : Int) < (n : Int) := by omega
    obtain rfl := GM.out h5
    clear CK GM GB GZ HL NL
    go_enter Tryz.func23, Tryz.ntmps23
    go_wp2_with fail
    go_ret
    exact ⟨rfl, rfl⟩
  · have h5' : ¬ (50 : Int) < (n : Int) := by omega
    clear GM
    go_enter Tryz.func23, Tryz.ntmps23
    go_wp2_with fail
    go_loopw [3] (fun i wr => ∃ k : Nat, k ≤ n ∧ i = .int .i64 k ∧ Hid (∀ j (h : j < l.length), j < k → noteP (l[j]'h)) ∧ w = wr) (fun i _ => n - (intOf i).toNat)
    case atStart => exact ⟨0, Nat.zero_le _, rfl, Lib.hid (fun j _ h => by omega), rfl⟩
    case round =>
      obtain ⟨k, hk, rfl, D, rfl⟩ := hrel
      by_cases hlt : k < n
      · have hkl : k < l.length := by rw [NL.out]; exact hlt
        obtain ⟨b, off, rfl, lt, row⟩ := HL.out.get1 hkl
        have CKk := Lib.hid (CK.out k hkl)
        have GBk := Lib.hid (fun (g : ¬ noteP (l[k]'hkl)) => GB.out (by omega) k hkl g)
        have DK := Lib.hid (fun (g : noteP (l[k]'hkl)) => (show ∀ j (h : j < l.length), j < k + 1 → noteP (l[j]'h) from fun j h hj => by
          by_cases e : j = k
          · subst e; exact g
          · exact D.out j h (by omega)))
        have i1 : (k : Int) < (n : Int) := by omega
        clear D GB GZ lt CK
        generalize l[k]'hkl = o at *
        go_wp2_with fail
        refine (CKk.out _).mono ?_
        rintro e w2 ⟨rfl, rfl⟩
        clear CKk
        by_cases ok : noteP o
        · rw [decide_eq_true ok]
          have D2 := Lib.hid (DK.out ok)
          clear DK GBk
          go_wp2_with fail
          go_roundw
          case rel => exact ⟨k + 1, by omega, by go_num, D2, by first | rfl | trivial⟩
          case measure => simp [intOf] <;> omega
        · rw [decide_eq_false ok]
          obtain rfl := GBk.out ok
          clear DK
          go_wp2_with fail
          go_ret
          exact ⟨rfl, rfl⟩
      · obtain rfl : k = n := by omega
        obtain rfl := GZ.out (by omega) (fun i hi => D.out i hi (by have := NL.out; omega))
        clear GZ D GB HL CK
        go_wp2_with fail
        go_ret
        exact ⟨rfl, rfl⟩
set_option maxRecDepth 100000 in
set_option maxHeartbeats 4000000 in
theorem sametexts_any (x y : Option Addr) (c d : Nat) (l : List ByteArray) (w : World) (hx : StA w x l) (hy : StA w y l) (hm : l.length ≤ 1000000) :
    Calls Tryz.prog 24 #[.slice x l.length c, .slice y l.length d] w fun e w' => e = .returned (.bool true) ∧ Below w.heap.size w w' := by
  have HX := Lib.hid (fun w' (h : Below w.heap.size w w') => hx.below h)
  have HY := Lib.hid (fun w' (h : Below w.heap.size w w') => hy.below h)
  obtain ⟨n, hnl⟩ : ∃ n, l.length = n := ⟨_, rfl⟩
  rw [hnl] at hm ⊢
  have NL := Lib.hid hnl
  clear hx hy hnl
  go_enter Tryz.func24, Tryz.ntmps24
  go_wp2_with fail
  go_loopw [5] (fun i wr => ∃ k : Nat, k ≤ n ∧ i = .int .i64 k ∧ Hid (Below w.heap.size w wr)) (fun i _ => n - (intOf i).toNat)
  case atStart => exact ⟨0, Nat.zero_le _, rfl, Lib.hid (Below.refl _ _)⟩
  case round =>
    obtain ⟨k, hk, rfl, B⟩ := hrel
    by_cases hlt : k < n
    · have hkl : k < l.length := by rw [NL.out]; exact hlt
      obtain ⟨b1, o1, rfl, lt1, r1⟩ := (HX.out _ B.out).get1 hkl
      obtain ⟨b2, o2, rfl, lt2, r2⟩ := (HY.out _ B.out).get1 hkl
      have i1 : (k : Int) < (n : Int) := by omega
      have i0 : (0 : Int) ≤ (k : Int) := by omega
      generalize l[k]'hkl = v at *
      clear lt1 lt2
      go_wp2_with fail
      go_quiet (fail)
      have B2 := Lib.hid (B.out.trans (drewN_below2 ((Below.refl _ _).mono B.out.size) nq))
      clear B
      go_wp2_with fail
      go_roundw
      case rel => exact ⟨k + 1, by omega, by go_num, B2⟩
      case measure => simp [intOf] <;> omega
    · obtain rfl : k = n := by omega
      go_wp2_with fail
      go_ret
      exact ⟨rfl, B.out⟩
def longT (l : List ByteArray) : Prop := ∃ s ∈ l, 200 < s.size
set_option maxRecDepth 100000 in
set_option maxHeartbeats 4000000 in
theorem greatn_any (x : Option Addr) (cap : Nat) (l : List ByteArray) (w : World) (hl : StA w x l) (hs : SzS l) (hm : l.length ≤ 6) :
    Calls Tryz.prog 20 #[.slice x l.length cap] w fun e w' => (longT l ∧ e = .returned (.bool true) ∨ ¬ longT l ∧ e = .returned (.bool false)) ∧ w = w' := by
  have HL := Lib.hid hl
  obtain ⟨n, hnl⟩ : ∃ n, l.length = n := ⟨_, rfl⟩
  have GB : Hid (∀ i (h : i < l.length), 200 < (l[i]'h).size → longT l) := Lib.hid (fun i h g => ⟨_, List.getElem_mem h, g⟩)
  have GZ : Hid ((∀ i (h : i < l.length), (l[i]'h).size ≤ 200) → ¬ longT l) := Lib.hid (fun g ⟨o, ho, k⟩ => by
    obtain ⟨i, hi, rfl⟩ := List.getElem_of_mem ho
    have := g i hi
    omega)
  rw [hnl] at hm ⊢
  have NL := Lib.hid hnl
  clear hl hs hnl
  have n6 : ¬ (6 : Int) < (n : Int) := by omega
  have n60 : ¬ (60 : Int) < (n : Int) := by omega
  go_enter Tryz.func20, Tryz.ntmps20
  go_wp2_with fail
  go_loopw [3] (fun i wr => ∃ k : Nat, k ≤ n ∧ i = .int .i64 k ∧ Hid (∀ j (h : j < l.length), j < k → (l[j]'h).size ≤ 200) ∧ w = wr) (fun i _ => n - (intOf i).toNat)
  case atStart => exact ⟨0, Nat.zero_le _, rfl, Lib.hid (fun j _ h => by omega), rfl⟩
  case round =>
    obtain ⟨k, hk, rfl, D, rfl⟩ := hrel
    by_cases hlt : k < n
    · have hkl : k < l.length := by rw [NL.out]; exact hlt
      obtain ⟨b, off, rfl, lt, row⟩ := HL.out.get1 hkl
      have GBk := Lib.hid (fun (g : 200 < (l[k]'hkl).size) => GB.out k hkl g)
      have DK := Lib.hid (fun (g : (l[k]'hkl).size ≤ 200) => (show ∀ j (h : j < l.length), j < k + 1 → (l[j]'h).size ≤ 200 from fun j h hj => by
        by_cases e : j = k
        · subst e; exact g
        · exact D.out j h (by omega)))
      have i1 : (k : Int) < (n : Int) := by omega
      clear D GB GZ lt
      generalize l[k]'hkl = o at *
      by_cases ok : 200 < o.size
      · have ok' : (200 : Int) < (o.size : Int) := by omega
        have D2 := Lib.hid (GBk.out ok)
        clear DK GBk
        go_wp2_with fail
        go_ret
        exact ⟨Or.inl ⟨D2.out, rfl⟩, rfl⟩
      · have ok' : ¬ (200 : Int) < (o.size : Int) := by omega
        have D2 := Lib.hid (DK.out (by omega))
        clear DK GBk
        go_wp2_with fail
        go_roundw
        case rel => exact ⟨k + 1, by omega, by go_num, D2, by first | rfl | trivial⟩
        case measure => simp [intOf] <;> omega
    · obtain rfl : k = n := by omega
      have ZZ := Lib.hid (GZ.out (fun i hi => D.out i hi (by have := NL.out; omega)))
      clear GZ D GB HL
      go_wp2_with fail
      go_ret
      exact ⟨Or.inr ⟨ZZ.out, by simp; omega⟩, rfl⟩
end Vw
end Go.Proofs.YtaghilgfldaaiaaGreatDoor
/-
  The walk of Same of the reference at equal lists; Great at any slice; a copy of a slice.
-/
namespace Go.Proofs.YtaghilgfldaaiaaGreatDoor
namespace Ow
open Go.RowKit Lw Go.Proofs.YtaghilgfldaaiaaGreatDoor.Ap Go.Proofs.YtaghilgfldaaiaaGreatDoor.Op Go.Proofs.YtaghilgfldaaiaaGreatDoor.Mp Go.Proofs.YtaghilgfldaaiaaGreatDoor.Mw Go.Proofs.YtaghilgfldaaiaaGreatDoor.At

set_option maxRecDepth 100000 in
set_option maxHeartbeats 40000000 in
theorem same_any (x y : Option Addr) (c d : Nat) (l : List Ob) (w : World) (hx : SlA w x l) (hy : SlA w y l) (hm : l.length ≤ 1000000) :
    Calls Tryz.prog 12 #[.slice x l.length c, .slice y l.length d] w fun e w' => e = .returned (.bool true) ∧ Below w.heap.size w w' := by
  have HX := Lib.hid (fun w' (h : Below w.heap.size w w') => hx.below h)
  have HY := Lib.hid (fun w' (h : Below w.heap.size w w') => hy.below h)
  obtain ⟨n, hnl⟩ : ∃ n, l.length = n := ⟨_, rfl⟩
  rw [hnl] at hm ⊢
  have NL := Lib.hid hnl
  clear hx hy hnl
  go_enter Tryz.func12, Tryz.ntmps12
  go_wp2_with fail
  go_loopw [5] (fun i wr => ∃ k : Nat, k ≤ n ∧ i = .int .i64 k ∧ Hid (Below w.heap.size w wr)) (fun i _ => n - (intOf i).toNat)
  case atStart => exact ⟨0, Nat.zero_le _, rfl, Lib.hid (Below.refl _ _)⟩
  case round =>
    obtain ⟨k, hk, rfl, B⟩ := hrel
    by_cases hlt : k < n
    · have hkl : k < l.length := by rw [NL.out]; exact hlt
      obtain ⟨b1, o1, rfl, lt1, row1⟩ := (HX.out _ B.out).get hkl
      obtain ⟨b2, o2, rfl, lt2, row2⟩ := (HY.out _ B.out).get hkl
      have R1 := Lib.hid row1
      have R2 := Lib.hid row2
      have i1 : (k : Int) < (n : Int) := by omega
      have i0 : (0 : Int) ≤ (k : Int) := by omega
      have BD := Lib.hid (B.out.trans ((Below.refl _ _).drew.mono B.out.size))
      obtain ⟨o, ho⟩ : ∃ o, l[k] = o := ⟨_, rfl⟩
      have Q1 := Lib.hid (show wr.drew.rangeAt b1 (o1 + k * 8) (obsC o) by rw [← ho]; exact rangeAt_below (row1 k hkl) (Below.refl _ _).drew lt1)
      have Q2 := Lib.hid (show wr.drew.rangeAt b2 (o2 + k * 8) (obsC o) by rw [← ho]; exact rangeAt_below (row2 k hkl) (Below.refl _ _).drew lt2)
      clear row1 row2 R1 R2 lt1 lt2 ho
      go_wp2_with fail
      refine wp_region_held_drew (S := fun w' => w' = wr.drew) (by kernel_rfl) rfl (fun hHeld => ?_)
      refine wpAnyH_take (i := 0) (oi := ?oi0x1) (v := ?v0x1) ?hi0x1 (by kernel_rfl) (by kernel_rfl) (by kernel_rfl) ?hq0x1 ?hy0x1 hHeld ?rest0x1
      case hi0x1 => ((try simp only [List.getElem?_toArray, List.getElem?_cons_succ, List.getElem?_cons_zero]); (try rfl))
      case hq0x1 => exact fun _ _ _ h => h
      case hy0x1 => exact Or.inl ⟨by rfl, by intro w hSw; clear hSw; go_simp; try with_reducible rfl⟩
      try simp only [Act.put, List.setIfInBounds_toArray, List.set_cons_zero, List.set_cons_succ]
      refine wpAnyH_take (i := 1) (oi := ?oi1x2) (v := ?v1x2) ?hi1x2 (by kernel_rfl) (by kernel_rfl) (by kernel_rfl) ?hq1x2 ?hy1x2 hHeld ?rest1x2
      case hi1x2 => ((try simp only [List.getElem?_toArray, List.getElem?_cons_succ, List.getElem?_cons_zero]); (try rfl))
      case hq1x2 => exact fun _ _ _ h => h
      case hy1x2 => exact Or.inl ⟨by rfl, by intro w hSw; clear hSw; go_simp; try with_reducible rfl⟩
      try simp only [Act.put, List.setIfInBounds_toArray, List.set_cons_zero, List.set_cons_succ]
      refine wpAnyH_take (i := 2) (oi := ?oi2x3) (v := ?v2x3) ?hi2x3 (by kernel_rfl) (by kernel_rfl) (by kernel_rfl) ?hq2x3 ?hy2x3 hHeld ?rest2x3
      case hi2x3 => ((try simp only [List.getElem?_toArray, List.getElem?_cons_succ, List.getElem?_cons_zero]); (try rfl))
      case hq2x3 => exact fun _ _ _ h => h
      case hy2x3 => exact Or.inl ⟨by rfl, by intro w hSw; clear hSw; go_simp; try with_reducible rfl⟩
      try simp only [Act.put, List.setIfInBounds_toArray, List.set_cons_zero, List.set_cons_succ]
      refine wpAnyH_take (i := 3) (oi := ?oi3x4) (v := ?v3x4) ?hi3x4 (by kernel_rfl) (by kernel_rfl) (by kernel_rfl) ?hq3x4 ?hy3x4 hHeld ?rest3x4
      case hi3x4 => ((try simp only [List.getElem?_toArray, List.getElem?_cons_succ, List.getElem?_cons_zero]); (try rfl))
      case hq3x4 => exact fun _ _ _ h => h
      case hy3x4 => 
        refine' yieldsIf_load_mid ?_ 33 (.tmp 19) ?_ b1 (o1 + k * 8) ?_ (obsC o) _ ?_ Tryz.underlying33 ?_ info8
        · rfl
        · rfl
        · rfl
        · exact fun _ h => by rw [h]; exact Q1.out
        · rfl
      try simp only [Act.put, List.setIfInBounds_toArray, List.set_cons_zero, List.set_cons_succ]
      refine wpAnyH_take (i := 4) (oi := ?oi4x5) (v := ?v4x5) ?hi4x5 (by kernel_rfl) (by kernel_rfl) (by kernel_rfl) ?hq4x5 ?hy4x5 hHeld ?rest4x5
      case hi4x5 => ((try simp only [List.getElem?_toArray, List.getElem?_cons_succ, List.getElem?_cons_zero]); (try rfl))
      case hq4x5 => exact fun _ _ _ h => h
      case hy4x5 => exact Or.inl ⟨by rfl, by intro w hSw; clear hSw; go_simp; try with_reducible rfl⟩
      try simp only [Act.put, List.setIfInBounds_toArray, List.set_cons_zero, List.set_cons_succ]
      refine wpAnyH_take (i := 5) (oi := ?oi5x6) (v := ?v5x6) ?hi5x6 (by kernel_rfl) (by kernel_rfl) (by kernel_rfl) ?hq5x6 ?hy5x6 hHeld ?rest5x6
      case hi5x6 => ((try simp only [List.getElem?_toArray, List.getElem?_cons_succ, List.getElem?_cons_zero]); (try rfl))
      case hq5x6 => exact fun _ _ _ h => h
      case hy5x6 => exact Or.inl ⟨by rfl, by intro w hSw; clear hSw; go_simp; try with_reducible rfl⟩
      try simp only [Act.put, List.setIfInBounds_toArray, List.set_cons_zero, List.set_cons_succ]
      refine wpAnyH_take (i := 6) (oi := ?oi6x7) (v := ?v6x7) ?hi6x7 (by kernel_rfl) (by kernel_rfl) (by kernel_rfl) ?hq6x7 ?hy6x7 hHeld ?rest6x7
      case hi6x7 => ((try simp only [List.getElem?_toArray, List.getElem?_cons_succ, List.getElem?_cons_zero]); (try rfl))
      case hq6x7 => exact fun _ _ _ h => h
      case hy6x7 => exact Or.inl ⟨by rfl, by intro w hSw; clear hSw; go_simp; try with_reducible rfl⟩
      try simp only [Act.put, List.setIfInBounds_toArray, List.set_cons_zero, List.set_cons_succ]
      refine wpAnyH_take (i := 7) (oi := ?oi7x8) (v := ?v7x8) ?hi7x8 (by kernel_rfl) (by kernel_rfl) (by kernel_rfl) ?hq7x8 ?hy7x8 hHeld ?rest7x8
      case hi7x8 => ((try simp only [List.getElem?_toArray, List.getElem?_cons_succ, List.getElem?_cons_zero]); (try rfl))
      case hq7x8 => exact fun _ _ _ h => h
      case hy7x8 => 
        refine' yieldsIf_load_mid ?_ 33 (.tmp 23) ?_ b2 (o2 + k * 8) ?_ (obsC o) _ ?_ Tryz.underlying33 ?_ info8
        · rfl
        · rfl
        · rfl
        · exact fun _ h => by rw [h]; exact Q2.out
        · rfl
      try simp only [Act.put, List.setIfInBounds_toArray, List.set_cons_zero, List.set_cons_succ]
      refine wpAnyH_take (i := 8) (oi := ?oi8x9) (v := ?v8x9) ?hi8x9 (by kernel_rfl) (by kernel_rfl) (by kernel_rfl) ?hq8x9 ?hy8x9 hHeld ?rest8x9
      case hi8x9 => ((try simp only [List.getElem?_toArray, List.getElem?_cons_succ, List.getElem?_cons_zero]); (try rfl))
      case hq8x9 => exact fun _ _ _ h => h
      case hy8x9 => exact Or.inl ⟨by rfl, by intro w hSw; clear hSw; go_simp; try with_reducible rfl⟩
      try simp only [Act.put, List.setIfInBounds_toArray, List.set_cons_zero, List.set_cons_succ]
      refine wpAnyH_done (by kernel_rfl) ?_ _
      clear hHeld Q1 Q2
      go_wp2_with fail
      go_roundw
      case rel => exact ⟨k + 1, by omega, by go_num, BD⟩
      case measure => simp [intOf]; omega
    · obtain rfl : k = n := by omega
      clear HX HY
      go_wp2_with fail
      go_ret
      exact ⟨rfl, B.out⟩
end Ow
end Go.Proofs.YtaghilgfldaaiaaGreatDoor
/-
  The walk of the law PsvBack.
-/
namespace Go.Proofs.YtaghilgfldaaiaaGreatDoor
namespace Vw
open Go.RowKit Lw Go.Proofs.YtaghilgfldaaiaaGreatDoor.Ap Go.Proofs.YtaghilgfldaaiaaGreatDoor.Vp Go.Proofs.YtaghilgfldaaiaaGreatDoor.Op Go.Proofs.YtaghilgfldaaiaaGreatDoor.Ow Go.Proofs.YtaghilgfldaaiaaGreatDoor.Mp Go.Proofs.YtaghilgfldaaiaaGreatDoor.Mw Go.Proofs.YtaghilgfldaaiaaGreatDoor.At

theorem small_back {l : List ByteArray} {m : List Ob} {s : ByteArray} {rows : List (List UInt8)} (hl : ∀ s ∈ l, noteP s) (ok : ∀ o ∈ m, okO o) (h : RowsTx m rows) (hs : s.data.toList = flatL (linesL l rows)) : SmallC s := by
  intro body n x R hb hn y hy p hp
  have ne : linesL l rows ≠ [] := by unfold linesL; simp
  rw [hs, flatL_join _ ne] at hb
  have e := (List.append_inj' hb rfl).1
  rw [← e, pieces_join 10 _ ne (lines_clean hl h ok), noteR_back rows hl] at hn
  injection hn with hn
  injection hn with _ hn
  injection hn with _ hn
  subst hn
  obtain ⟨i, hi, rfl⟩ := List.getElem_of_mem hy
  have hi2 : i < m.length := by rw [← h.1]; exact hi
  have okm := ok _ (List.getElem_mem hi2)
  obtain ⟨T, hT, e2⟩ := row_pieces okm (h.2 i hi2 hi)
  rw [e2] at hp
  obtain ⟨f, hf, rfl⟩ := List.mem_map.1 hp
  exact field_size okm hT f hf
theorem back_rows {l : List ByteArray} {m : List Ob} {s : ByteArray} (h : PrintTIs l m s 0) (hl : checkN l = 0) (hm : allC m = 0) : s.size ≤ 1000000 ∧ SmallC s ∧ ParseTIs s l (m.map roundP) 0 := by
  obtain ⟨n1, n2⟩ := checkN_ok hl
  obtain ⟨l1, l2⟩ := allC_ok hm
  rcases h with ⟨_, _, _, rows, h1, h2⟩ | ⟨h, _, _⟩ | ⟨_, h, _, _⟩
  · refine ⟨?_, small_back n2 l2 h1 h2, tab_back hl hm h1 h2⟩
    have : s.size = s.data.toList.length := rfl
    rw [this, h2]
    exact lines_len n2 n1 l1 h1 l2
  · exact absurd hl h
  · exact absurd hm h
theorem round_list {m : List Ob} (h : allC m = 0) : allC (m.map roundP) = 0 ∧ (m.map roundP).map roundP = m.map roundP ∧ OBs (m.map roundP) := by
  obtain ⟨l1, l2⟩ := allC_ok h
  refine ⟨allC_zero (by rw [List.length_map]; exact l1) (fun o ho => ?_), ?_, fun i hi => ?_⟩
  · obtain ⟨a, ha, rfl⟩ := List.mem_map.1 ho
    exact round_ok (l2 a ha)
  · rw [List.map_map]
    exact List.map_congr_left fun a ha => (round_two (l2 a ha)).2.1
  · rw [List.getElem_map]
    exact ok_ob (round_ok (l2 _ (List.getElem_mem _)))
set_option maxRecDepth 100000 in
set_option maxHeartbeats 40000000 in
theorem great_nil8 (x : Option Addr) (cap : Nat) (w : World) : Calls Tryz.prog 9 #[.slice x 0 cap, .int .i64 8] w fun e w' => e = .returned (.bool false) ∧ w = w' := by
  go_enter Tryz.func9, Tryz.ntmps9
  go_wp2_with fail
  go_loop [5] (fun i => i = .int .i64 0) (fun i => 0 - (intOf i).toNat)
  case atStart => exact rfl
  case round =>
    obtain rfl := hrel
    go_wp2_with fail
    go_ret
    exact ⟨rfl, rfl⟩
theorem great_sl8 (x : Option Addr) (cap : Nat) (l : List Ob) (w : World) (hx : SlA w x l) (hm : l.length ≤ 1000000) (hb : OBs l) :
    Calls Tryz.prog 9 #[.slice x l.length cap, .int .i64 8] w fun e w' => e = .returned (.bool (greatB l 8)) ∧ w = w' := by
  rcases hx with rfl | ⟨b, off, rfl, _, h⟩
  · refine (great_nil8 x cap w).mono ?_
    rintro e w' ⟨rfl, rfl⟩
    exact ⟨rfl, rfl⟩
  · exact great_any b off cap l 8 w h hm (fun o ho => by
      obtain ⟨i, hi, rfl⟩ := List.getElem_of_mem ho
      exact ⟨(hb i hi).n1, (hb i hi).n2⟩)
set_option maxRecDepth 100000 in
set_option maxHeartbeats 40000000 in
theorem psvback_any (xl : Option Addr) (cl : Nat) (l : List ByteArray) (xm : Option Addr) (cm : Nat) (m : List Ob) (w : World) (hT : Gt.Tab w) (hE : ES w) (hM : MX w) (hl : StA w xl l) (hz : SzS l) (hm : SlA w xm m) (hb : OBs m) (zl : l.length ≤ 9223372036854775807) (zm : m.length ≤ 9223372036854775807) :
    Calls Tryz.prog 6 #[.slice xl l.length cl, .slice xm m.length cm] w fun e w' => e = .returned (.bool true) ∧ Below w.heap.size w w' := by
  have HT := Lib.hid (fun w' (h : Below w.heap.size w w') => hT.below h)
  have HE := Lib.hid (fun w' (h : Below w.heap.size w w') => hE.below h)
  have HM := Lib.hid (fun w' (h : Below w.heap.size w w') => hM.below h)
  have HL := Lib.hid (fun w' (h : Below w.heap.size w w') => hl.below h)
  have HS := Lib.hid (fun w' (h : Below w.heap.size w w') => hm.below h)
  have HB := Lib.hid hb
  have HZ := Lib.hid hz
  have AL := Lib.hid (alive27_any w hT hE hM)
  have GN := Lib.hid (fun (h : l.length ≤ 6) w' (g : Below w.heap.size w w') => greatn_any xl cl l w' (hl.below g) hz h)
  have GR := Lib.hid (fun (h : m.length ≤ 8) w' (g : Below w.heap.size w w') => great_sl8 xm cm m w' (hm.below g) (by omega) hb)
  have RA := Lib.hid (fun (h : m.length ≤ 8) w' (g : Below w.heap.size w w') => rall_any xm cm m w' (hm.below g) (by omega) hb)
  have P1 := Lib.hid (fun (h : l.length ≤ 6) (g : m.length ≤ 8) w' (k : Below w.heap.size w w') => vprint_any xl cl l xm cm m w' (hT.below k) (hE.below k) (hl.below k) (hm.below k) hz (by omega) (by omega) hb)
  have RC := Lib.hid (fun (h : l.length ≤ 6) w' (g : Below w.heap.size w w') => rcheckn_any xl cl l w' (hl.below g) hz (by omega))
  have C4 : Hid (l.length ≤ 6 → checkN l ≠ 0 → checkN l = 8) := Lib.hid (fun h g => by
    by_cases k : ∀ s ∈ l, noteP s
    · exact absurd (checkN_zero (by omega) k) g
    · exact checkN_bad (by omega) k)
  obtain ⟨nl, hnl⟩ : ∃ n, l.length = n := ⟨_, rfl⟩
  obtain ⟨nm, hnm⟩ : ∃ n, m.length = n := ⟨_, rfl⟩
  rw [hnl] at zl GN P1 RC C4 ⊢
  rw [hnm] at zm GR RA P1 ⊢
  have NL := Lib.hid hnl
  have NM := Lib.hid hnm
  clear hT hE hM hl hz hm hb hnl hnm
  go_enter Tryz.func6, Tryz.ntmps6
  go_wp2_with fail
  refine AL.out.mono ?_
  rintro e w1 ⟨rfl, hb1⟩
  have B1 := Lib.hid hb1
  clear hb1 AL
  by_cases l6 : nl ≤ 6
  case neg =>
    have i1 : (6 : Int) < (nl : Int) := by omega
    clear GN GR RA P1 RC
    go_wp2_with fail
    go_ret
    exact ⟨rfl, B1.out⟩
  have i1 : ¬ (6 : Int) < (nl : Int) := by omega
  replace GN := Lib.hid (GN.out l6)
  replace P1 := Lib.hid (P1.out l6)
  replace RC := Lib.hid (RC.out l6)
  replace C4 := Lib.hid (C4.out l6)
  clear l6
  go_wp2_with fail
  refine (GN.out _ B1.out).mono ?_
  rintro e w2 ⟨hg, rfl⟩
  clear GN
  rcases hg with ⟨lg, rfl⟩ | ⟨lg, rfl⟩
  · clear GR RA P1 RC lg
    go_wp2_with fail
    go_ret
    exact ⟨rfl, B1.out⟩
  clear lg
  by_cases m8 : nm ≤ 8
  case neg =>
    have i2 : (8 : Int) < (nm : Int) := by omega
    clear GR RA P1 RC
    go_wp2_with fail
    go_ret
    exact ⟨rfl, B1.out⟩
  have i2 : ¬ (8 : Int) < (nm : Int) := by omega
  replace GR := Lib.hid (GR.out m8)
  replace RA := Lib.hid (RA.out m8)
  replace P1 := Lib.hid (P1.out m8)
  go_wp2_with fail
  refine (GR.out _ B1.out).mono ?_
  rintro e w2 ⟨rfl, rfl⟩
  clear GR
  by_cases g8 : greatB m 8 = true
  · rw [g8]
    clear RA P1 RC
    go_wp2_with fail
    go_ret
    exact ⟨rfl, B1.out⟩
  rw [Bool.eq_false_iff.2 g8]
  clear g8
  go_wp2_with fail
  refine (RA.out _ B1.out).mono ?_
  rintro e w2 ⟨rfl, hb2⟩
  have B2 := Lib.hid (below_then B1.out hb2)
  clear RA hb2 B1
  by_cases a0 : allC m = 0
  case neg =>
    have n0 : (allC m != 0) = true := bne_iff_ne.2 a0
    obtain ⟨K, hK⟩ : ∃ K, allC m = K := ⟨_, rfl⟩
    rw [hK] at n0 a0 ⊢
    clear P1 RC hK
    go_wp2_with fail
    go_ret
    exact ⟨rfl, B2.out⟩
  rw [a0]
  have A0 := Lib.hid a0
  clear a0
  go_wp2_with fail
  refine (P1.out _ B2.out).mono ?_
  rintro e w3 ⟨s, c, rfl, hP, hb3⟩
  have B3 := Lib.hid (below_then B2.out hb3)
  clear P1 hb3 B2
  by_cases c0 : checkN l = 0
  case neg =>
    obtain ⟨rfl, rfl⟩ : s = ByteArray.empty ∧ c = checkN l := by
      rcases hP with ⟨h, _, _, _⟩ | ⟨_, h1, h2⟩ | ⟨h, _, _, _⟩
      · exact absurd h c0
      · exact ⟨h1, h2⟩
      · exact absurd h c0
    rw [C4.out c0] at RC ⊢
    clear hP C4 c0
    go_wp2_with fail
    refine (RC.out _ B3.out).mono ?_
    rintro e w4 ⟨rfl, rfl⟩
    clear RC
    go_wp2_with fail
    go_ret
    exact ⟨rfl, B3.out⟩
  have C0 := Lib.hid c0
  clear RC C4 c0
  obtain rfl : c = 0 := by
    rcases hP with ⟨_, _, h, _⟩ | ⟨h, _, _⟩ | ⟨_, h, _, _⟩
    · exact h
    · exact absurd C0.out h
    · exact absurd A0.out h
  obtain ⟨zs, sm, ps⟩ := back_rows hP C0.out A0.out
  obtain ⟨qa, qb, qc⟩ := round_list A0.out
  have QR := Lib.hid (fun i (h : i < m.length) (g : i < (m.map roundP).length) => show (m.map roundP)[i]'g = roundP (m[i]'h) from List.getElem_map ..)
  have OK := Lib.hid (allC_ok A0.out).2
  obtain ⟨Q, hQ⟩ : ∃ Q, m.map roundP = Q := ⟨_, rfl⟩
  have ql : Q.length = nm := by rw [← hQ, List.length_map]; exact NM.out
  rw [hQ] at ps qa qb qc
  have QR2 := Lib.hid (fun i (h : i < m.length) (g : i < Q.length) => show Q[i]'g = roundP (m[i]'h) from by
    subst hQ
    exact QR.out i h g)
  have QL := Lib.hid ql
  have QA := Lib.hid qa
  have QB := Lib.hid qb
  have QC := Lib.hid qc
  have PA := Lib.hid (fun w' (h : Below w.heap.size w w') => vparse_any s w' (HE.out _ h) (HM.out _ h) zs sm)
  have PS := Lib.hid ps
  clear hP zs sm ps hQ ql qa qb qc QR
  go_wp2_with fail
  refine (PA.out _ B3.out).mono ?_
  rintro e w4 ⟨v1, d1, n1, m1, c1, rfl, hP, hv, hd, hb4⟩
  obtain ⟨rfl, rfl, rfl⟩ := PS.out.uniq hP
  obtain ⟨x1, e1, rfl, hx1⟩ := hv
  obtain ⟨x2, e2, rfl, hx2⟩ := hd
  have X1 := Lib.hid (fun w' (h : Below w4.heap.size w4 w') => hx1.below h)
  have X2 := Lib.hid (fun w' (h : Below w4.heap.size w4 w') => hx2.below h)
  have B4 := Lib.hid (below_then B3.out hb4)
  have P2 := Lib.hid (fun w' (k : Below w.heap.size w w') (g : Below w4.heap.size w4 w') => vprint_any x1 e1 l x2 e2 Q w' (HT.out _ k) (HE.out _ k) (hx1.below g) (hx2.below g) HZ.out (by have := NL.out; omega) (by have := QL.out; omega) QC.out)
  rw [NL.out, QL.out] at P2
  rw [NL.out, QL.out]
  clear hP PS PA hx1 hx2 hb4 B3
  go_wp2_with fail
  refine (P2.out _ B4.out (Below.refl _ _)).mono ?_
  rintro e w5 ⟨t, c, rfl, hP, hb5⟩
  obtain rfl : c = 0 := by
    rcases hP with ⟨_, _, h, _⟩ | ⟨h, _, _⟩ | ⟨_, h, _, _⟩
    · exact h
    · exact absurd C0.out h
    · exact absurd QA.out h
  obtain ⟨zs, sm, ps⟩ := back_rows hP C0.out QA.out
  rw [QB.out] at ps
  have B5 := Lib.hid (below_then B4.out hb5)
  have D5 := Lib.hid hb5
  have PA := Lib.hid (fun w' (h : Below w.heap.size w w') => vparse_any t w' (HE.out _ h) (HM.out _ h) zs sm)
  have PS := Lib.hid ps
  clear hP zs sm ps P2 hb5 B4
  go_wp2_with fail
  refine (PA.out _ B5.out).mono ?_
  rintro e w6 ⟨v3, d3, n3, m3, c3, rfl, hP, hv, hd, hb6⟩
  obtain ⟨rfl, rfl, rfl⟩ := PS.out.uniq hP
  obtain ⟨x3, e3, rfl, hx3⟩ := hv
  obtain ⟨x4, e4, rfl, hx4⟩ := hd
  rw [NL.out, QL.out]
  have X3 := Lib.hid (fun w' (h : Below w6.heap.size w6 w') => hx3.below h)
  have X4 := Lib.hid (fun w' (h : Below w6.heap.size w6 w') => hx4.below h)
  have B6 := Lib.hid (below_then B5.out hb6)
  have D6 := Lib.hid (below_then D5.out hb6)
  have S1 := Lib.hid (fun w' (k : Below w.heap.size w w') (g : Below w4.heap.size w4 w') => sametexts_any x1 xl e1 cl l w' (X1.out _ g) (HL.out _ k) (by have := NL.out; omega))
  have S2 := Lib.hid (fun w' (k : Below w.heap.size w w') (g : Below w6.heap.size w6 w') => sametexts_any x3 xl e3 cl l w' (X3.out _ g) (HL.out _ k) (by have := NL.out; omega))
  have S3 := Lib.hid (fun w' (k : Below w4.heap.size w4 w') (g : Below w6.heap.size w6 w') => same_any x2 x4 e2 e4 Q w' (X2.out _ k) (X4.out _ g) (by have := QL.out; omega))
  rw [NL.out] at S1 S2
  rw [QL.out] at S3
  clear hP PS PA hx3 hx4 hb6 B5 D5
  go_wp2_with fail
  refine (S1.out _ B6.out D6.out).mono ?_
  rintro e w7 ⟨rfl, hb7⟩
  have B7 := Lib.hid (below_then B6.out hb7)
  have D7 := Lib.hid (below_then D6.out hb7)
  have E7 := Lib.hid hb7
  clear hb7 S1 B6 D6
  go_wp2_with fail
  refine (S2.out _ B7.out E7.out).mono ?_
  rintro e w8 ⟨rfl, hb8⟩
  have B8 := Lib.hid (below_then B7.out hb8)
  have D8 := Lib.hid (below_then D7.out hb8)
  have E8 := Lib.hid (below_then E7.out hb8)
  clear hb8 S2 B7 D7 E7
  go_wp2_with fail
  refine (S3.out _ D8.out E8.out).mono ?_
  rintro e w9 ⟨rfl, hb9⟩
  have B9 := Lib.hid (below_then B8.out hb9)
  have D9 := Lib.hid (below_then D8.out hb9)
  clear hb9 S3 B8 D8 E8 X1 X3 X4
  have R1 := Lib.hid (fun i (h : i < m.length) w' (g : Below w.heap.size w w') => vround_any (m[i]'h) w' (HT.out _ g) (HE.out _ g) (HM.out _ g) (HB.out i h))
  go_wp2_with fail
  go_loopw [16] (fun i wr => ∃ k : Nat, k ≤ nm ∧ i = .int .i64 k ∧ Hid (Below w.heap.size w wr) ∧ Hid (Below w4.heap.size w4 wr)) (fun i _ => nm - (intOf i).toNat)
  case atStart => exact ⟨0, Nat.zero_le _, rfl, B9, D9⟩
  case round =>
    obtain ⟨k, hk, rfl, B, D⟩ := hrel
    clear B9 D9
    by_cases hlt : k < nm
    · have i3 : (k : Int) < (nm : Int) := by omega
      have hkl : k < m.length := by rw [NM.out]; exact hlt
      have hkq : k < Q.length := by rw [QL.out]; exact hlt
      obtain ⟨b1, off1, rfl, lt1, row1⟩ := (HS.out _ B.out).get hkl
      obtain ⟨b2, off2, rfl, lt2, row2⟩ := (X2.out _ D.out).get hkq
      have R := Lib.hid (row1 k hkl)
      have RB0 := Lib.hid (row2 k hkq)
      have LT := Lib.hid lt2
      have RR := Lib.hid (R1.out k hkl)
      have VR : VRoundIs (m[k]'hkl) (Q[k]'hkq) 0 := Or.inl ⟨OK.out _ (List.getElem_mem hkl), QR2.out k hkl hkq, rfl⟩
      have HV := Lib.hid VR
      obtain ⟨o, ho⟩ : ∃ o, m[k]'hkl = o := ⟨_, rfl⟩
      obtain ⟨r, hr⟩ : ∃ r, Q[k]'hkq = r := ⟨_, rfl⟩
      rw [ho] at R RR HV
      rw [hr] at RB0 HV
      clear row1 row2 lt1 lt2 VR ho hr R1 hkl hkq
      go_wp2_with (refine wpList_load_mid rfl _ (.tmp 130) rfl b1 (off1 + k * 8) rfl (obsC o) _ R.out Tryz.underlying33 rfl info8 ?_)
      refine (RR.out _ B.out).mono ?_
      rintro e wa ⟨q, c9, rfl, hq, hba⟩
      obtain ⟨rfl, rfl⟩ := HV.out.uniq hq
      have RB1 := Lib.hid (rangeAt_below RB0.out hba LT.out)
      have LT1 := Lib.hid (Nat.lt_of_lt_of_le LT.out hba.size)
      have Ba := Lib.hid (below_then B.out hba)
      have Da := Lib.hid (below_then D.out hba)
      have r10 := Rw.new wa (obsC r) 33
      have l10 := (Below.refl wa.heap.size wa).alloc (Nat.le_refl _) (.cells (obsC r).toArray 33)
      obtain ⟨v1, hv1⟩ : ∃ v, wa.alloc (.cells (obsC r).toArray 33) = v := ⟨_, rfl⟩
      rw [hv1] at r10 l10
      have V1 := Lib.hid hv1
      have RQ := Lib.hid r10
      have Bb := Lib.hid (below_then Ba.out l10)
      have Db := Lib.hid (below_then Da.out l10)
      have RB := Lib.hid (rangeAt_below RB1.out l10 LT1.out)
      have Bc := Lib.hid (below_then Bb.out (Below.refl _ _).drew)
      have Dc := Lib.hid (below_then Db.out (Below.refl _ _).drew)
      clear hq hba r10 l10 hv1 RR R RB0 LT RB1 LT1 Ba Da B D HV
      have EQ : ∀ w', (Go.Op.equalIn 10000 33 (.agg #[.string r.name, .string r.site, .int .i64 r.t, .int .i64 r.ra, .int .i64 r.dec, .int .i64 r.sg, .int .i64 r.mag, .int .u8 r.band]) (.agg #[.string r.name, .string r.site, .int .i64 r.t, .int .i64 r.ra, .int .i64 r.dec, .int .i64 r.sg, .int .i64 r.mag, .int .u8 r.band])).run Tryz.prog w' = .ok true w' := fun w' => by
        have := obs_eql r r w'
        rw [decide_eq_true rfl] at this
        exact this
      go_upto_region 16 with (refine wpList_store_new rfl _ (.tmp 17) (.tmp 133) rfl _ _ rfl rfl info8 rfl ?_ ?_; simp [Value.oneCell'])
      rw [show wa.alloc (.cells #[.string r.name, .string r.site, .int .i64 r.t, .int .i64 r.ra, .int .i64 r.dec, .int .i64 r.sg, .int .i64 r.mag, .int .u8 r.band] 33) = v1 from V1.out]
      obtain ⟨qb, hqb⟩ : ∃ q, wa.heap.size = q := ⟨_, rfl⟩
      rw [hqb] at RQ
      try rw [hqb]
      clear V1 hqb
      refine wp_region_held_drew (S := fun wx => Rw wx qb (obsC r) ∧ wx.rangeAt b2 (off2 + k * 8) (obsC r)) (by kernel_rfl) ⟨RQ.out.call (Below.refl _ _).drew, RB.out⟩ (fun hHeld => ?_)
      refine wpAnyH_take (i := 0) (oi := ?oi0x1) (v := ?v0x1) ?hi0x1 (by kernel_rfl) (by kernel_rfl) (by kernel_rfl) ?hq0x1 ?hy0x1 hHeld ?rest0x1
      case hi0x1 => ((try simp only [List.getElem?_toArray, List.getElem?_cons_succ, List.getElem?_cons_zero]); (try rfl))
      case hq0x1 => exact fun _ _ _ h => h
      case hy0x1 => exact Or.inl ⟨by rfl, by intro w hSw; clear hSw; go_simp; try with_reducible rfl⟩
      try simp only [Act.put, List.setIfInBounds_toArray, List.set_cons_zero, List.set_cons_succ]
      refine wpAnyH_take (i := 1) (oi := ?oi1x2) (v := ?v1x2) ?hi1x2 (by kernel_rfl) (by kernel_rfl) (by kernel_rfl) ?hq1x2 ?hy1x2 hHeld ?rest1x2
      case hi1x2 => ((try simp only [List.getElem?_toArray, List.getElem?_cons_succ, List.getElem?_cons_zero]); (try rfl))
      case hq1x2 => exact fun _ _ _ h => h
      case hy1x2 => exact Or.inl ⟨by rfl, by intro w hSw; clear hSw; go_simp; try with_reducible rfl⟩
      try simp only [Act.put, List.setIfInBounds_toArray, List.set_cons_zero, List.set_cons_succ]
      refine wpAnyH_take (i := 2) (oi := ?oi2x3) (v := ?v2x3) ?hi2x3 (by kernel_rfl) (by kernel_rfl) (by kernel_rfl) ?hq2x3 ?hy2x3 hHeld ?rest2x3
      case hi2x3 => ((try simp only [List.getElem?_toArray, List.getElem?_cons_succ, List.getElem?_cons_zero]); (try rfl))
      case hq2x3 => exact fun _ _ _ h => h
      case hy2x3 => exact Or.inl ⟨by rfl, by intro w hSw; clear hSw; go_simp; try with_reducible rfl⟩
      try simp only [Act.put, List.setIfInBounds_toArray, List.set_cons_zero, List.set_cons_succ]
      refine wpAnyH_take (i := 3) (oi := ?oi3x4) (v := ?v3x4) ?hi3x4 (by kernel_rfl) (by kernel_rfl) (by kernel_rfl) ?hq3x4 ?hy3x4 hHeld ?rest3x4
      case hi3x4 => ((try simp only [List.getElem?_toArray, List.getElem?_cons_succ, List.getElem?_cons_zero]); (try rfl))
      case hq3x4 => exact fun _ _ _ h => h
      case hy3x4 =>
        refine' yieldsIf_load_mid ?_ 33 (.tmp 17) ?_ qb 0 ?_ (obsC r) _ ?_ Tryz.underlying33 ?_ info8
        · rfl
        · rfl
        · rfl
        · exact fun _ h => h.1.row
        · rfl
      try simp only [Act.put, List.setIfInBounds_toArray, List.set_cons_zero, List.set_cons_succ]
      refine wpAnyH_take (i := 4) (oi := ?oi4x5) (v := ?v4x5) ?hi4x5 (by kernel_rfl) (by kernel_rfl) (by kernel_rfl) ?hq4x5 ?hy4x5 hHeld ?rest4x5
      case hi4x5 => ((try simp only [List.getElem?_toArray, List.getElem?_cons_succ, List.getElem?_cons_zero]); (try rfl))
      case hq4x5 => exact fun _ _ _ h => h
      case hy4x5 => exact Or.inl ⟨by rfl, by intro w hSw; clear hSw; go_simp; try with_reducible rfl⟩
      try simp only [Act.put, List.setIfInBounds_toArray, List.set_cons_zero, List.set_cons_succ]
      refine wpAnyH_take (i := 5) (oi := ?oi5x6) (v := ?v5x6) ?hi5x6 (by kernel_rfl) (by kernel_rfl) (by kernel_rfl) ?hq5x6 ?hy5x6 hHeld ?rest5x6
      case hi5x6 => ((try simp only [List.getElem?_toArray, List.getElem?_cons_succ, List.getElem?_cons_zero]); (try rfl))
      case hq5x6 => exact fun _ _ _ h => h
      case hy5x6 => exact Or.inl ⟨by rfl, by intro w hSw; clear hSw; go_simp; try with_reducible rfl⟩
      try simp only [Act.put, List.setIfInBounds_toArray, List.set_cons_zero, List.set_cons_succ]
      refine wpAnyH_take (i := 6) (oi := ?oi6x7) (v := ?v6x7) ?hi6x7 (by kernel_rfl) (by kernel_rfl) (by kernel_rfl) ?hq6x7 ?hy6x7 hHeld ?rest6x7
      case hi6x7 => ((try simp only [List.getElem?_toArray, List.getElem?_cons_succ, List.getElem?_cons_zero]); (try rfl))
      case hq6x7 => exact fun _ _ _ h => h
      case hy6x7 => exact Or.inl ⟨by rfl, by intro w hSw; clear hSw; go_simp; try with_reducible rfl⟩
      try simp only [Act.put, List.setIfInBounds_toArray, List.set_cons_zero, List.set_cons_succ]
      refine wpAnyH_take (i := 7) (oi := ?oi7x8) (v := ?v7x8) ?hi7x8 (by kernel_rfl) (by kernel_rfl) (by kernel_rfl) ?hq7x8 ?hy7x8 hHeld ?rest7x8
      case hi7x8 => ((try simp only [List.getElem?_toArray, List.getElem?_cons_succ, List.getElem?_cons_zero]); (try rfl))
      case hq7x8 => exact fun _ _ _ h => h
      case hy7x8 =>
        refine' yieldsIf_load_mid ?_ 33 (.tmp 141) ?_ b2 (off2 + k * 8) ?_ (obsC r) _ ?_ Tryz.underlying33 ?_ info8
        · rfl
        · rfl
        · rfl
        · exact fun _ h => h.2
        · rfl
      try simp only [Act.put, List.setIfInBounds_toArray, List.set_cons_zero, List.set_cons_succ]
      refine wpAnyH_take (i := 8) (oi := ?oi8x9) (v := ?v8x9) ?hi8x9 (by kernel_rfl) (by kernel_rfl) (by kernel_rfl) ?hq8x9 ?hy8x9 hHeld ?rest8x9
      case hi8x9 => ((try simp only [List.getElem?_toArray, List.getElem?_cons_succ, List.getElem?_cons_zero]); (try rfl))
      case hq8x9 => exact fun _ _ _ h => h
      case hy8x9 => exact Or.inl ⟨by rfl, by intro w hSw; clear hSw; go_simp; try with_reducible rfl⟩
      try simp only [Act.put, List.setIfInBounds_toArray, List.set_cons_zero, List.set_cons_succ]
      refine wpAnyH_take (i := 9) (oi := ?oi9x10) (v := ?v9x10) ?hi9x10 (by kernel_rfl) (by kernel_rfl) (by kernel_rfl) ?hq9x10 ?hy9x10 hHeld ?rest9x10
      case hi9x10 => ((try simp only [List.getElem?_toArray, List.getElem?_cons_succ, List.getElem?_cons_zero]); (try rfl))
      case hq9x10 => exact fun _ _ _ h => h
      case hy9x10 => exact Or.inl ⟨by rfl, by intro w hSw; clear hSw; go_simp; try with_reducible rfl⟩
      try simp only [Act.put, List.setIfInBounds_toArray, List.set_cons_zero, List.set_cons_succ]
      refine wpAnyH_done (by kernel_rfl) ?_ _
      clear hHeld
      go_wp2_with fail
      go_roundw
      case rel => exact ⟨k + 1, by omega, by go_num, Bc, Dc⟩
      case measure => simp [intOf] <;> omega
    · obtain rfl : k = nm := by omega
      clear R1
      go_wp2_with fail
      go_ret
      exact ⟨rfl, B.out⟩
end Vw
end Go.Proofs.YtaghilgfldaaiaaGreatDoor
/-
  An argument that is a list of observations, opened.
-/
namespace Go.Proofs.YtaghilgfldaaiaaGreatDoor
namespace Ow
open Go.RowKit Lw Go.Proofs.YtaghilgfldaaiaaGreatDoor.Op Go.ChangeShapes Go.WideShapes Go.Deep

section
variable {H : Type} {enc : TypeId × Value → H} {P : Program} {w : World} {base : Nat} {spare : Nat → Bool} {held : Bool}
theorem elem_fields {e : TypeId} {fs : Array Field} {fuel : Nat} {a : Addr} {cs : List Value} {x : DataW H × List MemPlace} (he : P.underlying e = some (.struct fs)) (hone : oneCellFields P fs = true) (hC : P.cellsOf e = fs.size)
    (hc : w.cells? base a (P.cellsOf e) = some cs) (ht : DataW.trod enc P w base spare held fuel e cs = some x) :
    ∃ n, ∀ j f, fs[j]? = some f → ∃ v y, w.cell? (a.add j) = some v ∧ DataW.trod enc P w base spare held n f.type [v] = some y := by
  rw [hC] at hc
  obtain ⟨ys, n, _, hy, hlen, hyl, hf⟩ := DataW.trod_struct he ht
  obtain ⟨_, hcl, hat⟩ := World.cells?_some hc
  refine ⟨n, fun j f hj => ?_⟩
  obtain ⟨ho, hk⟩ := hone_of hone j f hj
  have hjl : j < fs.size := (Array.getElem?_eq_some_iff.1 hj).1
  have h1 := hf j f hj
  rw [ho, hk, List.drop_eq_getElem_cons (show j < cs.length by omega)] at h1
  have hys : ys[j]? = some (ys[j]'(by omega)) := List.getElem?_eq_getElem (by omega)
  exact ⟨_, _, (hat j hjl).trans (List.getElem?_eq_getElem (by omega)), h1.trans hys⟩
end
theorem block_lt {w : World} {a : Addr} {v : Value} (h : w.cell? a = some v) : a.block < w.heap.size ∧ a.spot = none := by
  unfold World.cell? at h
  split at h
  · rename_i c _ _ hh
    refine ⟨(Array.getElem?_eq_some_iff.1 hh).1, ?_⟩
    cases hs : a.spot with
    | none => rfl
    | some s => simp [hs] at h
  · cases h
theorem one_of {a b : Value} (h : [a] = [b]) : a = b := by injection h
theorem add_none {b off k : Nat} : (⟨b, off, none⟩ : Addr).add k = ⟨b, off + k, none⟩ := Addr.add_mid b off k
/-- One element. -/
theorem obs_elem {H : Type} {enc : TypeId × Value → H} {w : World} {base : Nat} {spare : Nat → Bool} {held : Bool} {m b off : Nat} {cs : List Value} {x : DataW H × List MemPlace}
    (hc : w.cells? base ⟨b, off, none⟩ (Tryz.prog.cellsOf 33) = some cs) (ht : DataW.trod enc Tryz.prog w base spare held m 33 cs = some x) :
    ∃ o : Ob, OB o ∧ w.rangeAt b off (obsC o) := by
  obtain ⟨n, hf⟩ := elem_fields Tryz.underlying33 (by kernel_rfl) (by kernel_rfl) hc ht
  obtain ⟨v0, y0, k0, t0⟩ := hf 0 _ rfl
  obtain ⟨v1, y1, k1, t1⟩ := hf 1 _ rfl
  obtain ⟨v2, y2, k2, t2⟩ := hf 2 _ rfl
  obtain ⟨v3, y3, k3, t3⟩ := hf 3 _ rfl
  obtain ⟨v4, y4, k4, t4⟩ := hf 4 _ rfl
  obtain ⟨v5, y5, k5, t5⟩ := hf 5 _ rfl
  obtain ⟨v6, y6, k6, t6⟩ := hf 6 _ rfl
  obtain ⟨v7, y7, k7, t7⟩ := hf 7 _ rfl
  obtain ⟨a0, e0, _, w0⟩ := DataW.trod_string Tryz.underlying9 t0
  obtain ⟨a1, e1, _, w1⟩ := DataW.trod_string Tryz.underlying9 t1
  obtain ⟨a2, e2, _, w2⟩ := DataW.trod_int Tryz.underlying2 t2
  obtain ⟨a3, e3, _, w3⟩ := DataW.trod_int Tryz.underlying2 t3
  obtain ⟨a4, e4, _, w4⟩ := DataW.trod_int Tryz.underlying2 t4
  obtain ⟨a5, e5, _, w5⟩ := DataW.trod_int Tryz.underlying2 t5
  obtain ⟨a6, e6, _, w6⟩ := DataW.trod_int Tryz.underlying3 t6
  obtain ⟨a7, e7, _, w7⟩ := DataW.trod_int Tryz.underlying5 t7
  obtain rfl := one_of e0
  obtain rfl := one_of e1
  obtain rfl := one_of e2
  obtain rfl := one_of e3
  obtain rfl := one_of e4
  obtain rfl := one_of e5
  obtain rfl := one_of e6
  obtain rfl := one_of e7
  have b2 := bounds_i64 w2
  have b7 := bounds_u8 w7
  rw [add_none] at k0 k1 k2 k3 k4 k5 k6 k7
  refine ⟨⟨a0, a1, a2, a3, a4, a5, a6, a7⟩, ⟨b2.1, b2.2, b7.1, by show a7 ≤ 255; omega, w0, w1⟩, fun j v hv => ?_⟩
  match j, hv with
  | 0, hv => cases hv; exact k0
  | 1, hv => cases hv; exact k1
  | 2, hv => cases hv; exact k2
  | 3, hv => cases hv; exact k3
  | 4, hv => cases hv; exact k4
  | 5, hv => cases hv; exact k5
  | 6, hv => cases hv; exact k6
  | 7, hv => cases hv; exact k7
  | k + 8, hv => simp at hv
theorem obs_list {H : Type} {enc : TypeId × Value → H} {w : World} {base : Nat} {spare : Nat → Bool} {held : Bool} {x : Option Addr} {len cap : Nat} {d : DataW H} {p : List MemPlace}
    (h : DataW.Trod enc Tryz.prog w base spare held 22 (.slice x len cap) d p) :
    len ≤ 9223372036854775807 ∧ ∃ l : List Ob, l.length = len ∧ SlA w x l ∧ OBs l ∧ (x = none → l = [] ∧ cap = 0) := by
  obtain ⟨fuel, hf⟩ := h
  rcases open_slice Tryz.underlying22 hf with ⟨hc, _⟩ | ⟨a, ln, cp, m, n, D, Pl, hcs, hb, hl, hmx, hmm, hx, hi⟩
  · have := one_of hc
    cases this
    exact ⟨by omega, [], rfl, Or.inl rfl, fun i hi => by simp at hi, fun _ => ⟨rfl, rfl⟩⟩
  · have := one_of hcs
    cases this
    refine ⟨by unfold maxLen at hmx; omega, ?_⟩
    by_cases h0 : len = 0
    · subst h0
      exact ⟨[], rfl, Or.inl rfl, fun i hi => by simp at hi, fun h => by cases h⟩
    · have hml : len ≤ m := by rw [hmm]; split <;> omega
      obtain ⟨b, off, spot⟩ := a
      obtain ⟨cs0, hc0, ht0⟩ := hi 0 (by omega)
      obtain ⟨n0, hf0⟩ := elem_fields Tryz.underlying33 (by kernel_rfl) (by kernel_rfl) hc0 ht0
      obtain ⟨v0, y0, k0, _⟩ := hf0 0 _ rfl
      have k0' : w.cell? ⟨b, off, spot⟩ = some v0 := by simpa [Addr.add] using k0
      obtain ⟨hlt, hsp⟩ := block_lt k0'
      obtain rfl : spot = none := hsp
      have hc8 : Tryz.prog.cellsOf 33 = 8 := by kernel_rfl
      have key : ∀ k, ∃ o : Ob, k < len → OB o ∧ w.rangeAt b (off + k * 8) (obsC o) := fun k => by
        by_cases hk : k < len
        · obtain ⟨cs', hc', ht'⟩ := hi k (by omega)
          rw [add_none] at hc'
          obtain ⟨o, ho⟩ := obs_elem hc' ht'
          rw [hc8] at ho
          exact ⟨o, fun _ => ho⟩
        · exact ⟨zeroO, fun g => absurd g hk⟩
      obtain ⟨R, hR⟩ := Classical.axiomOfChoice key
      refine ⟨(List.range len).map R, by simp, Or.inr ⟨b, off, rfl, hlt, fun i hi => ?_⟩, fun i hi => ?_, fun h => by cases h⟩
      · have hi' : i < len := by simpa using hi
        rw [List.getElem_map, List.getElem_range]
        exact (hR i hi').2
      · have hi' : i < len := by simpa using hi
        rw [List.getElem_map, List.getElem_range]
        exact (hR i hi').1
end Ow
end Go.Proofs.YtaghilgfldaaiaaGreatDoor
/-
  An argument that is a list of strings, opened.
-/
namespace Go.Proofs.YtaghilgfldaaiaaGreatDoor
namespace Vw
open Go.RowKit Lw Go.Proofs.YtaghilgfldaaiaaGreatDoor.Op Go.Proofs.YtaghilgfldaaiaaGreatDoor.Ow Go.ChangeShapes Go.WideShapes Go.Deep

section
variable {H : Type} {enc : TypeId × Value → H} {w : World} {base : Nat} {spare : Nat → Bool} {held : Bool}
theorem cells_lt {a : Addr} {n : Nat} {cs : List Value} (hn : 0 < n) (h : w.cells? base a n = some cs) : a.block < w.heap.size ∧ a.spot = none := by
  obtain ⟨_, hl, hat⟩ := World.cells?_some h
  have h0 := hat 0 hn
  rw [List.getElem?_eq_getElem (by omega)] at h0
  have e : a.add 0 = a := by simp [Addr.add]
  rw [e] at h0
  exact block_lt h0
/-- A slice of whatever elements. -/
theorem open_rows {α : Type} [Inhabited α] {t e : TypeId} {fuel : Nat} {x : Option Addr} {len cap : Nat} {y : DataW H × List MemPlace} (S : Nat) (hS : Tryz.prog.cellsOf e = S) (hp : 0 < S) (ht : Tryz.prog.underlying t = some (.slice e)) (Pr : Nat → Nat → α → Prop)
    (elem : ∀ b off m cs z, w.cells? base ⟨b, off, none⟩ S = some cs → DataW.trod enc Tryz.prog w base spare held m e cs = some z → ∃ o, Pr b off o)
    (h : DataW.trod enc Tryz.prog w base spare held fuel t [.slice x len cap] = some y) :
    len ≤ 9223372036854775807 ∧ ∃ l : List α, l.length = len ∧ (l = [] ∨ ∃ b off, x = some ⟨b, off, none⟩ ∧ b < w.heap.size ∧ ∀ i (h : i < l.length), Pr b (off + i * S) (l[i]'h)) := by
  rcases open_slice ht h with ⟨hc, _⟩ | ⟨a, ln, cp, m, n, D, Pl, hcs, hb, hl, hmx, hmm, hx, hi⟩
  · have := one_of hc
    cases this
    exact ⟨by omega, [], rfl, Or.inl rfl⟩
  · have := one_of hcs
    cases this
    refine ⟨by unfold maxLen at hmx; omega, ?_⟩
    rw [hS] at hi
    by_cases h0 : len = 0
    · subst h0
      exact ⟨[], rfl, Or.inl rfl⟩
    · have hml : len ≤ m := by rw [hmm]; split <;> omega
      obtain ⟨b, off, spot⟩ := a
      obtain ⟨cs0, hc0, ht0⟩ := hi 0 (by omega)
      have lt0 := cells_lt hp hc0
      have hsp : spot = none := by
        have := lt0.2
        simpa [Addr.add] using this
      have hlt : b < w.heap.size := by
        have := lt0.1
        simpa [Addr.add] using this
      subst hsp
      have key : ∀ k, ∃ o : α, k < len → Pr b (off + k * S) o := fun k => by
        by_cases hk : k < len
        · obtain ⟨cs', hc', ht'⟩ := hi k (by omega)
          rw [add_none] at hc'
          obtain ⟨o, ho⟩ := elem b (off + k * S) n cs' _ hc' ht'
          exact ⟨o, fun _ => ho⟩
        · exact ⟨default, fun g => absurd g hk⟩
      obtain ⟨R, hR⟩ := Classical.axiomOfChoice key
      refine ⟨(List.range len).map R, by simp, Or.inr ⟨b, off, rfl, hlt, fun i hi => ?_⟩⟩
      have hi' : i < len := by simpa using hi
      rw [List.getElem_map, List.getElem_range]
      exact hR i hi'
theorem tx_elem {m b off : Nat} {cs : List Value} {x : DataW H × List MemPlace}
    (hc : w.cells? base ⟨b, off, none⟩ 1 = some cs) (ht : DataW.trod enc Tryz.prog w base spare held m 9 cs = some x) :
    ∃ s : ByteArray, w.rangeAt b off [.string s] ∧ s.size ≤ maxLen := by
  obtain ⟨s, e, _, hs⟩ := DataW.trod_string Tryz.underlying9 ht
  obtain ⟨_, hl, hat⟩ := World.cells?_some hc
  subst e
  refine ⟨s, fun j v hv => ?_, hs⟩
  match j, hv with
  | 0, hv =>
    cases hv
    have := hat 0 (by omega)
    rw [add_none] at this
    exact this
  | k + 1, hv => simp at hv
theorem str_list {x : Option Addr} {len cap : Nat} {d : DataW H} {p : List MemPlace} (h : DataW.Trod enc Tryz.prog w base spare held 42 (.slice x len cap) d p) :
    len ≤ 9223372036854775807 ∧ ∃ l : List ByteArray, l.length = len ∧ StA w x l ∧ SzS l := by
  obtain ⟨fuel, h⟩ := h
  obtain ⟨hm, l, hl, hx⟩ := open_rows (α := ByteArray) 1 (by kernel_rfl) (by omega) Tryz.underlying42 (fun b off s => w.rangeAt b off [.string s] ∧ s.size ≤ maxLen) (fun b off m cs z h1 h2 => tx_elem h1 h2) h
  refine ⟨hm, l, hl, ?_, fun s hs => ?_⟩
  · rcases hx with h | ⟨b, off, h1, h2, h3⟩
    · exact Or.inl h
    · exact Or.inr ⟨b, off, h1, h2, fun i hi => by
        have := (h3 i hi).1 0 _ rfl
        rw [Nat.mul_one] at this
        exact this⟩
  · obtain ⟨i, hi, rfl⟩ := List.getElem_of_mem hs
    rcases hx with h | ⟨b, off, h1, h2, h3⟩
    · subst h; exact absurd hi (Nat.not_lt_zero _)
    · exact (h3 i hi).2
end
end Vw
end Go.Proofs.YtaghilgfldaaiaaGreatDoor
