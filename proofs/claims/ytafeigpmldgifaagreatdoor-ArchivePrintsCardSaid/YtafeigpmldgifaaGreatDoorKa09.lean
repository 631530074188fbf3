/-
  Lemmas and walks, texts joined: KRef, OSame, KGreat, OSlice, KArg, KLaid.
-/
import Derived.Deep.RegionHeld3
import Derived.Laws.AppendOwnNone
import Derived.Deep.Slices
import Derived.Deep.Fields
import Derived.ChangeSame
import Derived.OpenShut
import Derived.Test.YtafeigpmldgifaaGreatDoorKa08
import Derived.Test.YtafeigpmldgifaaGreatDoorKa07
import Derived.Test.YtafeigpmldgifaaGreatDoorKa06
import Derived.Test.YtafeigpmldgifaaGreatDoorKa02
import Derived.Test.YtafeigpmldgifaaGreatDoorKa04
import Derived.Test.YtafeigpmldgifaaGreatDoorKa05
import Derived.Test.YtafeigpmldgifaaGreatDoorCards
set_option linter.unusedSimpArgs false
set_option linter.unusedVariables false
/-
  The walks of lines and Print of the reference.
-/
namespace Go.Proofs.YtafeigpmldgifaaGreatDoor
namespace Kw
open Go.RowKit Lw Go.Proofs.YtafeigpmldgifaaGreatDoor.Op Go.Proofs.YtafeigpmldgifaaGreatDoor.Ow Go.Proofs.YtafeigpmldgifaaGreatDoor.Kp Go.Proofs.YtafeigpmldgifaaGreatDoor.Dp

def RLinesPost (l : List Ob) (w : World) (e : Ending) (w' : World) : Prop :=
  ((∃ t, LinesTo l l.length t ∧ e = .returned (.tuple #[.string t, .bool true])) ∨ ((¬ ∀ o ∈ l, okO o) ∧ e = .returned (.tuple #[.string ⟨#[]⟩, .bool false]))) ∧ Below w.heap.size w w'
set_option maxRecDepth 100000 in
set_option maxHeartbeats 8000000 in
theorem rlines_any (x : Option Addr) (cap : Nat) (l : List Ob) (w : World) (hl : SlA w x l) (hn : l.length ≤ 1000) (hb : OBs l) :
    Calls Tryz.prog 14 #[.slice x l.length cap] w (RLinesPost l w) := by
  have HL := Lib.hid (fun w' (h : Below w.heap.size w w') => hl.below h)
  have PR := Lib.hid (fun i (h : i < l.length) w' => rprint_any (l[i]'h) w' (hb i h))
  obtain ⟨n, hnl⟩ : ∃ n, l.length = n := ⟨_, rfl⟩
  have FIN : Hid (∀ t, LinesTo l n t → LinesTo l l.length t) := Lib.hid (fun t h => by rw [hnl]; exact h)
  have NO : Hid (∀ i (h : i < l.length), ¬ okO (l[i]'h) → ¬ ∀ o ∈ l, okO o) := Lib.hid (fun i h g k => g (k _ (List.getElem_mem h)))
  rw [hnl] at hn ⊢
  have NL := Lib.hid hnl
  clear hl hb hnl
  go_enter Tryz.func14, Tryz.ntmps14
  go_wp2_with fail
  go_loopw [5, 4] (fun i v wr => ∃ (k : Nat) (t : ByteArray), k ≤ n ∧ i = .int .i64 k ∧ v = .string t ∧ Hid (LinesTo l k t) ∧ Hid (Below w.heap.size w wr)) (fun i _ _ => n - (intOf i).toNat)
  case atStart => exact ⟨0, ByteArray.empty, Nat.zero_le _, rfl, rfl, Lib.hid rfl, Lib.hid (Below.refl _ _)⟩
  case round =>
    obtain ⟨k, t, hk, rfl, rfl, TT, X⟩ := hrel
    have zt := TT.out.size
    by_cases hlt : k < n
    · have hkl : k < l.length := by rw [NL.out]; exact hlt
      obtain ⟨b, off, rfl, lt, row⟩ := (HL.out _ X.out).get hkl
      have R := Lib.hid (row k hkl)
      have PRk := Lib.hid (PR.out k hkl)
      have NOk := Lib.hid (NO.out k hkl)
      have ST : Hid (∀ u, PrintIs (l[k]'hkl) u 0 → LinesTo l (k + 1) (t ++ (u ++ nlS))) := Lib.hid (fun u h => ⟨t, u, _, TT.out, List.getElem?_eq_getElem hkl, h, rfl⟩)
      have i1 : (k : Int) < (n : Int) := by omega
      clear FIN row lt PR NO TT
      generalize l[k]'hkl = o at *
      go_wp2_with (refine wpList_load_mid rfl _ (.tmp 17) rfl b (off + k * 8) rfl (obsC o) _ R.out Tryz.underlying57 rfl info8 ?_)
      refine (PRk.out _).mono ?_
      rintro e w2 ⟨u, c, rfl, hP, hb2⟩
      have B2 := Lib.hid (below_then X.out hb2)
      clear hb2 X PRk R
      rcases print_c hP with ⟨ok, rfl, h0⟩ | ⟨no, rfl⟩
      · have ST2 := Lib.hid (ST.out u h0)
        have zu := print0_size h0
        clear hP ST ok h0 NOk
        obtain ⟨u2, hu2⟩ : ∃ u2, u ++ nlS = u2 := ⟨_, rfl⟩
        rw [hu2] at ST2
        have zu2 : u2.size = 81 := by rw [← hu2, ByteArray.size_append, zu]; rfl
        have cat : ∀ w', (Go.Op.stringOp .add u ⟨#[10]⟩).run Tryz.prog w' = .ok (.string u2) w' := fun w' => by rw [run_string_add_sum (P := Tryz.prog) (w := w') _ _ (by rw [zu]; decide), ← hu2]; rfl
        obtain ⟨t2, ht2⟩ : ∃ t2, t ++ u2 = t2 := ⟨_, rfl⟩
        have cat2 : ∀ w', (Go.Op.stringOp .add t u2).run Tryz.prog w' = .ok (.string t2) w' := fun w' => by rw [run_string_add_sum (P := Tryz.prog) (w := w') _ _ (by rw [zt, zu2]; omega), ← ht2]
        rw [ht2] at ST2
        clear hu2 ht2 zt
        go_wp2_with fail
        go_roundw
        case rel => exact ⟨k + 1, t2, by omega, by go_num, rfl, ST2, B2⟩
        case measure => simp [intOf]; omega
      · have N2 := Lib.hid (NOk.out no)
        clear hP ST no NOk
        go_wp2_with fail
        go_ret2
        exact ⟨Or.inr ⟨N2.out, rfl⟩, B2.out⟩
    · obtain rfl : k = n := by omega
      have F := Lib.hid (FIN.out t TT.out)
      have i1 : ¬ (k : Int) < (k : Int) := by omega
      clear FIN PR NO TT HL
      go_wp2_with fail
      go_ret2
      exact ⟨Or.inl ⟨t, F.out, rfl⟩, X.out⟩
/-- The names of an object so far. -/
def partS (l : List Dg) (j : Nat) : ByteArray := if j = 0 then ByteArray.empty else ⟨([42, 32] ++ Lib.join ((l.take j).map textG) eqS).toArray⟩
theorem part_zero (l : List Dg) : partS l 0 = ByteArray.empty := if_pos rfl
theorem part_one (l : List Dg) (h : 0 < l.length) : partS l 1 = ⟨#[42, 32]⟩ ++ txG l[0] := by
  unfold partS
  rw [if_neg (by decide), List.take_one, List.head?_eq_getElem?, List.getElem?_eq_getElem h]
  exact (str_app [42, 32] (textG l[0])).symm ▸ (by rw [Option.toList_some, List.map_cons, List.map_nil, Lib.join_one])
theorem part_more (l : List Dg) (j : Nat) (h : j < l.length) (hj : 0 < j) : partS l (j + 1) = partS l j ++ (⟨#[32, 61, 32]⟩ ++ txG l[j]) := by
  unfold partS
  rw [if_neg (by omega), if_neg (by omega), List.take_succ_eq_append_getElem h, List.map_append]
  cases e : l.take j with
  | nil =>
    have := congrArg List.length e
    rw [List.length_take, List.length_nil] at this
    omega
  | cons a r =>
    rw [List.map_cons, List.map_cons, List.map_nil, show textG a :: r.map textG ++ [textG l[j]] = textG a :: (r.map textG ++ [textG l[j]]) from rfl, join_snoc]
    have a1 := str_app [32, 61, 32] (textG l[j])
    have a2 := str_app ([42, 32] ++ Lib.join (textG a :: r.map textG) eqS) ([32, 61, 32] ++ textG l[j])
    unfold txG
    rw [show (⟨#[32, 61, 32]⟩ : ByteArray) = ⟨([32, 61, 32] : List UInt8).toArray⟩ from rfl, a1, a2]
    simp [eqS, List.append_assoc]
theorem part_head (l : List Dg) (h : l ≠ []) : partS l l.length ++ nlS = headS l := by
  unfold partS headS nlS
  rw [if_neg (fun e => h (List.length_eq_zero_iff.1 e)), List.take_length]
  exact str_app ([42, 32] ++ Lib.join (l.map textG) eqS) [10]
theorem part_size (l : List Dg) (j : Nat) (h : ∀ d ∈ l.take j, okG d) (hn : l.length ≤ 20) : (partS l j).size ≤ 1300 := by
  unfold partS
  split
  · exact Nat.zero_le _
  · have z := join_len ((l.take j).map textG) (fun x hx => by
      obtain ⟨d, hd, rfl⟩ := List.mem_map.1 hx
      exact text_short (h d hd))
    rw [List.length_map, List.length_take] at z
    rw [size_mk, List.length_append]
    simp only [List.length_cons, List.length_nil]
    omega
/-- What the reference's Print needs of memory: the box of its argument. -/
structure RX3 (w0 : World) (cs : List Value) (w : World) : Prop where
  below : Below w0.heap.size w0 w
  box : w.rangeAt w0.heap.size 0 cs
  lt : w0.heap.size < w.heap.size
theorem RX3.call {w0 w w' : World} {cs : List Value} (h : RX3 w0 cs w) (hb : Below w.heap.size w w') : RX3 w0 cs w' := ⟨below_then h.below hb, rangeAt_below h.box hb h.lt, Nat.lt_of_lt_of_le h.lt hb.size⟩
set_option maxRecDepth 100000 in
set_option maxHeartbeats 16000000 in
theorem rprint_cat (c : Ct) (x1 x2 x3 : Option Addr) (c1 c2 c3 : Nat) (w : World) (hc : CtA w c x1 c1 x2 c2 x3 c3) (cb : CtB c) (cs : CtS c) :
    Calls Tryz.prog 6 #[.agg (ctC c x1 c1 x2 c2 x3 c3).toArray] w (CatPost c w) := by
  have P0 := Lib.hid (show RX3 w (ctC c x1 c1 x2 c2 x3 c3) (w.alloc (.cells (ctC c x1 c1 x2 c2 x3 c3).toArray 26)) from ⟨(Below.refl w.heap.size w).alloc (Nat.le_refl _) _, rangeAt_new w _ _, by simp⟩)
  have LI := Lib.hid (fun x cap (l : List Ob) w' (hl : SlA w x l) hn hb (h0 : Below w.heap.size w w') => rlines_any x cap l w' (hl.below h0) hn hb)
  have CB := Lib.hid cb
  have CS := Lib.hid cs
  have HC := Lib.hid hc
  clear hc cb cs
  obtain ⟨n1, hn1⟩ : ∃ n, c.fl.length = n := ⟨_, rfl⟩
  obtain ⟨n2, hn2⟩ : ∃ n, c.rest.length = n := ⟨_, rfl⟩
  obtain ⟨n3, hn3⟩ : ∃ n, c.notes.length = n := ⟨_, rfl⟩
  obtain ⟨C, hC⟩ : ∃ C, ctC c x1 c1 x2 c2 x3 c3 = C := ⟨_, rfl⟩
  have C0 : C[0]? = some (.slice x1 n1 c1) := by rw [← hC, ← hn1]; rfl
  have C1 : C[1]? = some (.slice x2 n2 c2) := by rw [← hC, ← hn2]; rfl
  have C2 : C[2]? = some (.slice x3 n3 c3) := by rw [← hC, ← hn3]; rfl
  rw [hC] at P0
  have eC : (ctC c x1 c1 x2 c2 x3 c3).toArray = #[.slice x1 n1 c1, .slice x2 n2 c2, .slice x3 n3 c3] := by rw [← hn1, ← hn2, ← hn3]
  rw [eC]
  have eC2 : C.toArray = #[.slice x1 n1 c1, .slice x2 n2 c2, .slice x3 n3 c3] := by rw [← hC, eC]
  rw [eC2] at P0
  have Z1 : n1 ≤ 20 := by rw [← hn1]; exact CS.out.fl
  have Z2 : n2 ≤ 1000 := by rw [← hn2]; exact CS.out.rest
  have Z3 : n3 ≤ 30 := by rw [← hn3]; exact CS.out.notes
  have N1 := Lib.hid hn1
  have N2 := Lib.hid hn2
  have N3 := Lib.hid hn3
  clear hn1 hn2 hn3 hC eC eC2
  go_enter Tryz.func6, Tryz.ntmps6
  go_wp2_with fail
  go_loopw [5, 4] (fun i v wr => ∃ (k : Nat) (s : ByteArray), k ≤ n1 ∧ i = .int .i64 k ∧ v = .string s ∧ Hid (ObjTo c.fl k s ∧ (∀ j (h : j < c.fl.length), j < k → okF c.fl[j]) ∧ RX3 w C wr)) (fun i _ _ => n1 - (intOf i).toNat)
  case atStart => exact ⟨0, ByteArray.empty, Nat.zero_le _, rfl, rfl, Lib.hid ⟨rfl, fun j _ h => absurd h (Nat.not_lt_zero j), P0.out⟩⟩
  case round =>
    obtain ⟨k, s, hk, rfl, rfl, D⟩ := hrel
    clear P0
    obtain ⟨wo, hwo⟩ : ∃ wo, wo = wr := ⟨_, rfl⟩
    subst hwo
    obtain ⟨hs, hok, hp⟩ := D.out
    have zs := obj_size CS.out.al CS.out.ob hok hs
    have HS := Lib.hid hs
    have HOK := Lib.hid hok
    have HP := Lib.hid hp
    have q0 := HP.out.box 0 _ C0
    simp only [Nat.zero_add] at q0
    clear D hs hok hp
    by_cases hlt : k < n1
    · have hkl : k < c.fl.length := by rw [N1.out]; exact hlt
      rcases HC.out.fl with h | ⟨b, off, hx, lt, row⟩
      · exfalso
        rw [h] at hkl
        exact absurd hkl (Nat.not_lt_zero k)
      · subst hx
        have rk := row k hkl
        have hf : c.fl[k]'hkl ∈ c.fl := List.getElem_mem hkl
        have al20 := CS.out.al _ hf
        have ob1000 := CS.out.ob _ hf
        have DGB := Lib.hid (CB.out.dg _ hf)
        have OBB := Lib.hid (CB.out.ob _ hf)
        have NOF := Lib.hid (fun (h : ¬ okF (c.fl[k]'hkl)) => show ¬ okC c from fun g => h (g.1 _ hf))
        have ST := Lib.hid (fun t (h : LinesTo (c.fl[k]'hkl).ob (c.fl[k]'hkl).ob.length t) => show ObjTo c.fl (k + 1) ((s ++ headS (c.fl[k]'hkl).al) ++ t) from ⟨s, _, t, HS.out, List.getElem?_eq_getElem hkl, h, rfl⟩)
        have OKN := Lib.hid (fun (h : okF (c.fl[k]'hkl)) => show ∀ j (hj : j < c.fl.length), j < k + 1 → okF c.fl[j] from fun j hj h2 => by
          by_cases e : j = k
          · subst e; exact h
          · exact HOK.out j hj (by omega))
        clear row hf HOK HS
        generalize c.fl[k]'hkl = f at *
        obtain ⟨xa, ca, xo, co, r, da, so⟩ := rk
        have R := Lib.hid (rangeAt_below r HP.out.below lt)
        have DA := Lib.hid da
        have SO := Lib.hid so
        clear r da so lt
        have bx := (Below.refl wo.heap.size wo).alloc (Nat.le_refl _) (.cells (flC f xa ca xo co).toArray 39)
        have FX := Lib.hid (rangeAt_new wo (flC f xa ca xo co) 39)
        have P1 := Lib.hid (HP.out.call bx)
        have sz1 : wo.heap.size < (wo.alloc (.cells (flC f xa ca xo co).toArray 39)).heap.size := by simp
        obtain ⟨m, hm⟩ : ∃ m, f.al.length = m := ⟨_, rfl⟩
        have M := Lib.hid hm
        rw [hm] at al20
        clear hm bx
        have i1 : (k : Int) < (n1 : Int) := by omega
        go_wp2_with (first | (refine wpList_store_new rfl _ (.tmp 6) (.tmp 26) rfl _ _ rfl rfl info7 rfl ?_ ?_; simp [Value.oneCell']) | (refine wpList_load_mid rfl _ (.tmp 25) rfl b (off + k * 7) rfl (flC f xa ca xo co) _ R.out Tryz.underlying39 rfl info7 ?_))
        clear i1 q0
        go_loopw [7, 4] (fun j v wi => ∃ i : Nat, i ≤ m ∧ j = .int .i64 i ∧ v = .string (s ++ partS f.al i) ∧ Hid (∀ d ∈ f.al.take i, okG d) ∧ Hid (RX3 w C wi ∧ wi.rangeAt wo.heap.size 0 (flC f xa ca xo co) ∧ wo.heap.size < wi.heap.size)) (fun j _ _ => m - (intOf j).toNat)
        case atStart => exact ⟨0, Nat.zero_le _, rfl, by rw [part_zero, ByteArray.append_empty], Lib.hid (fun d h => by simp at h), Lib.hid ⟨P1.out, FX.out, sz1⟩⟩
        case round =>
          obtain ⟨i, hi, rfl, rfl, G, X⟩ := hrel
          have PI := Lib.hid X.out.1
          have FI := Lib.hid X.out.2.1
          have lo := X.out.2.2
          have f5 := FI.out 5 _ rfl
          simp only [Nat.zero_add] at f5
          rw [M.out] at f5
          have zp := part_size f.al i G.out (by rw [M.out]; exact al20)
          clear X P1 FX sz1
          by_cases hli : i < m
          · have hil : i < f.al.length := by rw [M.out]; exact hli
            rcases DA.out.below PI.out.below with h | ⟨b2, off2, hx, lt2, row2⟩
            · exfalso
              rw [h] at hil
              exact absurd hil (Nat.not_lt_zero i)
            · subst hx
              have R2 := Lib.hid (row2 i hil)
              have hd : f.al[i]'hil ∈ f.al := List.getElem_mem hil
              obtain ⟨h0, h1, s0, s1⟩ := DGB.out _ hd
              have TK : f.al.take (i + 1) = f.al.take i ++ [f.al[i]'hil] := List.take_succ_eq_append_getElem hil
              have ON := Lib.hid (fun (h : okG (f.al[i]'hil)) => show ∀ d ∈ f.al.take (i + 1), okG d from by
                rw [TK]
                intro d hd
                rcases List.mem_append.1 hd with h' | h'
                · exact G.out d h'
                · rw [List.mem_singleton.1 h']; exact h)
              have NOG := Lib.hid (fun (h : ¬ okG (f.al[i]'hil)) => show ¬ okC c from NOF.out fun g => h (g.2.1 _ hd))
              have PO1 := Lib.hid (fun (e : i = 0) => show partS f.al (i + 1) = ⟨#[42, 32]⟩ ++ txG (f.al[i]'hil) by subst e; exact part_one _ hil)
              have PO2 := Lib.hid (fun (e : 0 < i) => part_more f.al i hil e)
              clear TK hd row2 lt2 G NOF ST OKN
              generalize f.al[i]'hil = d at *
              have i2 : (i : Int) < (m : Int) := by omega
              go_wp2_with (refine wpList_load_mid rfl _ (.tmp 40) rfl b2 (off2 + i * 5) rfl (dgC d) _ R2.out Tryz.underlying34 rfl Dw.info5d ?_)
              by_cases gd : okG d
              · have zd := text_short gd
                refine (Dw.rText_ok d.n d.y d.h d.s d.c _ h0 h1 s0 s1 gd).mono ?_
                rintro e w3 ⟨rfl, hb3⟩
                have P3 := Lib.hid (PI.out.call hb3)
                have F3 := Lib.hid (rangeAt_below FI.out hb3 lo)
                have O4 := Lib.hid (ON.out gd)
                have l3 := Nat.lt_of_lt_of_le lo hb3.size
                obtain ⟨T, hT⟩ : ∃ T, (⟨(textG ⟨d.n, d.y, d.h, d.s, d.c⟩).toArray⟩ : ByteArray) = T := ⟨_, rfl⟩
                have eT : txG d = T := hT
                have zT : T.size ≤ 60 := by rw [← eT]; unfold txG; rw [size_mk]; exact zd
                rw [eT] at PO1 PO2
                rw [hT]
                clear hb3 NOG ON R2 PI FI gd hT eT zd f5
                obtain ⟨A, hA⟩ : ∃ A, s ++ partS f.al i = A := ⟨_, rfl⟩
                have zA : A.size ≤ 5000000 := by rw [← hA, ByteArray.size_append]; omega
                by_cases e0 : i = 0
                · have eA : A = s := by rw [← hA, e0, part_zero, ByteArray.append_empty]
                  have PP := PO1.out e0
                  obtain ⟨U, hU⟩ : ∃ U, (⟨#[42, 32]⟩ : ByteArray) ++ T = U := ⟨_, rfl⟩
                  obtain ⟨V, hV⟩ : ∃ V, A ++ U = V := ⟨_, rfl⟩
                  have t1 : ∀ w', (Go.Op.stringOp .add ⟨#[42, 32]⟩ T).run Tryz.prog w' = .ok (.string U) w' := fun w' => by rw [run_string_add_sum (P := Tryz.prog) (w := w') _ _ (by show 2 + T.size ≤ _; omega), hU]
                  have zU : U.size ≤ 62 := by rw [← hU, ByteArray.size_append]; show 2 + T.size ≤ _; omega
                  have t2 : ∀ w', (Go.Op.stringOp .add A U).run Tryz.prog w' = .ok (.string V) w' := fun w' => by rw [run_string_add_sum (P := Tryz.prog) (w := w') _ _ (by omega), hV]
                  have fin : V = s ++ partS f.al (i + 1) := by rw [PP, hU, ← hV, eA]
                  have FN := Lib.hid fin
                  have j0 : ((i : Int) == 0) = true := beq_iff_eq.2 (by omega)
                  rw [hA]
                  clear hA hU hV eA PP PO1 PO2 fin zp
                  go_wp2_with fail
                  go_roundw
                  case rel => exact ⟨i + 1, by omega, by go_num, by rw [FN.out], O4, Lib.hid ⟨P3.out, F3.out, l3⟩⟩
                  case measure => simp [intOf]; omega
                · have PP := PO2.out (by omega)
                  obtain ⟨U, hU⟩ : ∃ U, (⟨#[32, 61, 32]⟩ : ByteArray) ++ T = U := ⟨_, rfl⟩
                  obtain ⟨V, hV⟩ : ∃ V, A ++ U = V := ⟨_, rfl⟩
                  have t1 : ∀ w', (Go.Op.stringOp .add ⟨#[32, 61, 32]⟩ T).run Tryz.prog w' = .ok (.string U) w' := fun w' => by rw [run_string_add_sum (P := Tryz.prog) (w := w') _ _ (by show 3 + T.size ≤ _; omega), hU]
                  have zU : U.size ≤ 63 := by rw [← hU, ByteArray.size_append]; show 3 + T.size ≤ _; omega
                  have t2 : ∀ w', (Go.Op.stringOp .add A U).run Tryz.prog w' = .ok (.string V) w' := fun w' => by rw [run_string_add_sum (P := Tryz.prog) (w := w') _ _ (by omega), hV]
                  have fin : V = s ++ partS f.al (i + 1) := by rw [PP, hU, ← hV, ← hA, ByteArray.append_assoc]
                  have FN := Lib.hid fin
                  have j0 : ((i : Int) == 0) = false := beq_eq_false_iff_ne.2 (by omega)
                  rw [hA]
                  clear hA hU hV PP PO1 PO2 fin zp
                  go_wp2_with fail
                  go_roundw
                  case rel => exact ⟨i + 1, by omega, by go_num, by rw [FN.out], O4, Lib.hid ⟨P3.out, F3.out, l3⟩⟩
                  case measure => simp [intOf]; omega
              · have N := Lib.hid (NOG.out gd)
                refine (Dw.rText_no d.n d.y d.h d.s d.c _ gd).mono ?_
                rintro e w3 ⟨rfl, hb3⟩
                have B4 := Lib.hid (below_then PI.out.below hb3)
                clear hb3 NOG ON R2 PI FI gd PO1 PO2 f5
                go_wp2_with fail
                go_ret2
                exact ⟨_, 8, rfl, Or.inr ⟨N.out, rfl, rfl⟩, B4.out⟩
          · obtain rfl : i = m := by omega
            have e0 : f.al.take f.al.length = f.al := List.take_length
            rw [M.out] at e0
            have oall := G.out
            rw [e0] at oall
            have OA := Lib.hid oall
            have LX := LI.out xo co f.ob wr SO.out ob1000 OBB.out PI.out.below
            have LX := Lib.hid LX
            have f6 := FI.out 6 _ rfl
            simp only [Nat.zero_add] at f6
            have i2 : ¬ (i : Int) < (i : Int) := by omega
            clear oall e0 G DGB DA SO OBB
            obtain ⟨A, hA⟩ : ∃ A, s ++ partS f.al i = A := ⟨_, rfl⟩
            have zA : A.size ≤ 5000000 := by rw [← hA, ByteArray.size_append]; omega
            have HA := Lib.hid hA
            rw [hA]
            clear hA
            go_wp2_with fail
            refine LX.out.mono ?_
            rintro e w5 ⟨h, hb5⟩
            have P5 := Lib.hid (PI.out.call hb5)
            have F5 := Lib.hid (rangeAt_below FI.out hb5 lo)
            have g5 := F5.out 5 _ rfl
            simp only [Nat.zero_add] at g5
            rw [M.out] at g5
            clear LX f6 hb5 PI FI f5 F5 i2
            rcases h with ⟨t, ht, rfl⟩ | ⟨no, rfl⟩
            · have zt := ht.size
              by_cases m0 : i = 0
              · subst m0
                have N := Lib.hid (NOF.out (fun g => g.1 (List.length_eq_zero_iff.1 M.out)))
                clear ST OKN ht NOF
                go_wp2_with fail
                go_ret2
                exact ⟨_, 8, rfl, Or.inr ⟨N.out, rfl, rfl⟩, P5.out.below⟩
              · have okf : okF f := ⟨fun e => m0 (by rw [← M.out, e]; rfl), OA.out, linesTo_all ht⟩
                have OS := Lib.hid (OKN.out okf)
                have S2 := ST.out t ht
                have im : ((i : Int) == 0) = false := beq_eq_false_iff_ne.2 (by omega)
                have ph := part_head f.al okf.1
                rw [M.out] at ph
                obtain ⟨U, hU⟩ : ∃ U, (⟨#[10]⟩ : ByteArray) ++ t = U := ⟨_, rfl⟩
                obtain ⟨V, hV⟩ : ∃ V, A ++ U = V := ⟨_, rfl⟩
                have t1 : ∀ w', (Go.Op.stringOp .add ⟨#[10]⟩ t).run Tryz.prog w' = .ok (.string U) w' := fun w' => by rw [run_string_add_sum (P := Tryz.prog) (w := w') _ _ (by show 1 + t.size ≤ _; omega), hU]
                have zU : U.size ≤ 90000 := by rw [← hU, ByteArray.size_append]; show 1 + t.size ≤ _; omega
                have t2 : ∀ w', (Go.Op.stringOp .add A U).run Tryz.prog w' = .ok (.string V) w' := fun w' => by rw [run_string_add_sum (P := Tryz.prog) (w := w') _ _ (by omega), hV]
                have fin : V = (s ++ headS f.al) ++ t := by
                  rw [← hV, ← hU, ← HA.out, ← ph]
                  unfold nlS
                  simp only [ByteArray.append_assoc]
                rw [← fin] at S2
                have S3 := Lib.hid S2
                clear ST OKN ht NOF okf OA hU hV fin ph S2 HA
                go_wp2_with fail
                go_roundw
                case rel => exact ⟨k + 1, V, by omega, by go_num, rfl, Lib.hid ⟨S3.out, OS.out, P5.out⟩⟩
                case measure => simp [intOf]; omega
            · have N := Lib.hid (NOF.out (fun g => no g.2.2))
              clear ST OKN NOF no
              go_wp2_with fail
              go_ret2
              exact ⟨_, 8, rfl, Or.inr ⟨N.out, rfl, rfl⟩, P5.out.below⟩
    · obtain rfl : k = n1 := by omega
      have i1 : ¬ (k : Int) < (k : Int) := by omega
      have zsz : s.size ≤ 2000000 := by omega
      have q1 := HP.out.box 1 _ C1
      simp only [Nat.zero_add] at q1
      have L2 := LI.out x2 c2 c.rest wo HC.out.rest (by rw [N2.out]; omega) CB.out.rest HP.out.below
      rw [N2.out] at L2
      have LX := Lib.hid L2
      have OKF := Lib.hid (show ∀ f ∈ c.fl, okF f from fun f hf => by
        obtain ⟨j, hj, rfl⟩ := List.getElem_of_mem hf
        exact HOK.out j hj (by rw [← N1.out]; exact hj))
      clear L2 LI HOK
      go_wp2_with fail
      refine LX.out.mono ?_
      rintro e w5 ⟨h, hb5⟩
      have P5 := Lib.hid (HP.out.call hb5)
      clear LX q1 q0 hb5 HP
      rcases h with ⟨t, ht, rfl⟩ | ⟨no, rfl⟩
      · have okc : Hid (okC c) := Lib.hid ⟨OKF.out, linesTo_all ht⟩
        have HT2 := Lib.hid ht
        have zu := ht.size
        rw [N2.out] at zu
        obtain ⟨U, hU⟩ : ∃ U, (⟨#[42, 10]⟩ : ByteArray) ++ t = U := ⟨_, rfl⟩
        obtain ⟨V, hV⟩ : ∃ V, s ++ U = V := ⟨_, rfl⟩
        have zU : U.size ≤ 90000 := by rw [← hU, ByteArray.size_append]; show 2 + t.size ≤ _; omega
        have t1 : ∀ w', (Go.Op.stringOp .add ⟨#[42, 10]⟩ t).run Tryz.prog w' = .ok (.string U) w' := fun w' => by rw [run_string_add_sum (P := Tryz.prog) (w := w') _ _ (by show 2 + t.size ≤ _; omega), hU]
        have t2 : ∀ w', (Go.Op.stringOp .add s U).run Tryz.prog w' = .ok (.string V) w' := fun w' => by rw [run_string_add_sum (P := Tryz.prog) (w := w') _ _ (by omega), hV]
        have zv : V.size ≤ 3000000 := by rw [← hV, ByteArray.size_append]; omega
        have HV : Hid ((s ++ starS) ++ t = V) := Lib.hid (by rw [← hV, ← hU, ByteArray.append_assoc]; rfl)
        clear ht OKF hU hV zu
        go_wp2_with fail
        clear t1 t2
        go_loopw [14, 4] (fun j v wi => ∃ i : Nat, i ≤ n3 ∧ j = .int .i64 i ∧ v = .string (notesTo c.notes V i) ∧ Hid (RX3 w C wi)) (fun j _ _ => n3 - (intOf j).toNat)
        case atStart => exact ⟨0, Nat.zero_le _, rfl, rfl, P5⟩
        case round =>
          obtain ⟨i, hi, rfl, rfl, PN⟩ := hrel
          have zi := notes_size c.notes V CS.out.note i
          have q2 := PN.out.box 2 _ C2
          simp only [Nat.zero_add] at q2
          clear P5
          by_cases hli : i < n3
          · have hil : i < c.notes.length := by rw [N3.out]; exact hli
            rcases HC.out.notes with h | ⟨b3, off3, hx, lt3, row3⟩
            · exfalso
              rw [h] at hil
              exact absurd hil (Nat.not_lt_zero i)
            · subst hx
              have qn := rangeAt_below (row3 i hil) PN.out.below lt3 0 _ rfl
              rw [Nat.add_zero] at qn
              have zn := CS.out.note _ (List.getElem_mem hil)
              have SN := notesTo_step V hil
              clear row3 lt3
              generalize c.notes[i]'hil = nt at *
              obtain ⟨A0, hA0⟩ : ∃ A, notesTo c.notes V i = A := ⟨_, rfl⟩
              rw [hA0] at SN zi
              rw [hA0]
              obtain ⟨A1, hA1⟩ : ∃ A, (⟨#[35, 32]⟩ : ByteArray) ++ nt = A := ⟨_, rfl⟩
              obtain ⟨A2, hA2⟩ : ∃ A, A1 ++ (⟨#[10]⟩ : ByteArray) = A := ⟨_, rfl⟩
              obtain ⟨A3, hA3⟩ : ∃ A, A0 ++ A2 = A := ⟨_, rfl⟩
              have zA1 : A1.size ≤ 1002 := by rw [← hA1, ByteArray.size_append]; show 2 + nt.size ≤ _; omega
              have zA2 : A2.size ≤ 1003 := by rw [← hA2, ByteArray.size_append]; show A1.size + 1 ≤ _; omega
              have t1 : ∀ w', (Go.Op.stringOp .add ⟨#[35, 32]⟩ nt).run Tryz.prog w' = .ok (.string A1) w' := fun w' => by rw [run_string_add_sum (P := Tryz.prog) (w := w') _ _ (by show 2 + nt.size ≤ _; omega), hA1]
              have t2 : ∀ w', (Go.Op.stringOp .add A1 ⟨#[10]⟩).run Tryz.prog w' = .ok (.string A2) w' := fun w' => by rw [run_string_add_sum (P := Tryz.prog) (w := w') _ _ (by show A1.size + 1 ≤ _; omega), hA2]
              have t3 : ∀ w', (Go.Op.stringOp .add A0 A2).run Tryz.prog w' = .ok (.string A3) w' := fun w' => by rw [run_string_add_sum (P := Tryz.prog) (w := w') _ _ (by omega), hA3]
              have en : noteS nt = A2 := by rw [← hA2, ← hA1]; rfl
              rw [en, hA3] at SN
              have SN2 := Lib.hid SN
              have i2 : (i : Int) < (n3 : Int) := by omega
              clear hA1 hA2 hA3 en SN hA0
              go_wp2_with fail
              go_roundw
              case rel => exact ⟨i + 1, by omega, by go_num, by rw [SN2.out], PN⟩
              case measure => simp [intOf]; omega
          · obtain rfl : i = n3 := by omega
            have i2 : ¬ (i : Int) < (i : Int) := by omega
            go_wp2_with fail
            go_ret2
            refine ⟨_, 0, rfl, Or.inl ⟨okc.out, ⟨s, t, by rw [N1.out]; exact HS.out, HT2.out, ?_⟩, rfl⟩, PN.out.below⟩
            rw [N3.out, HV.out]
      · have N : Hid (¬ okC c) := Lib.hid (fun g => no g.2)
        clear no OKF
        go_wp2_with fail
        go_ret2
        exact ⟨_, 8, rfl, Or.inr ⟨N.out, rfl, rfl⟩, P5.out.below⟩
end Kw
end Go.Proofs.YtafeigpmldgifaaGreatDoor
/-
  The walk of Same of the reference at equal lists; Great at any slice; a copy of a slice.
-/
namespace Go.Proofs.YtafeigpmldgifaaGreatDoor
namespace Ow
open Go.RowKit Lw Go.Proofs.YtafeigpmldgifaaGreatDoor.Ap Go.Proofs.YtafeigpmldgifaaGreatDoor.Op Go.Proofs.YtafeigpmldgifaaGreatDoor.Mp Go.Proofs.YtafeigpmldgifaaGreatDoor.Mw Go.Proofs.YtafeigpmldgifaaGreatDoor.At

/-- Two rows that hold one list. -/
structure S2 (w0 : World) (a oa b ob : Nat) (l : List Ob) (w : World) : Prop where
  r1 : ObsAt w a oa l
  r2 : ObsAt w b ob l
  at_ : ∃ m, w = w0.drewN m
set_option maxRecDepth 100000 in
set_option maxHeartbeats 4000000 in
theorem great_wide (b off cap : Nat) (l : List Ob) (most : Int) (w : World) (hl : ObsAt w b off l) (hm : l.length ≤ 9223372036854775807) (hn : ∀ o ∈ l, o.name.size ≤ maxLen ∧ o.site.size ≤ maxLen) :
    Calls Tryz.prog 7 #[.slice (some ⟨b, off, none⟩) l.length cap, .int .i64 most] w fun e w' => e = .returned (.bool (greatB l most)) ∧ w = w' := by
  have HL := Lib.hid hl
  have HN := Lib.hid hn
  have GY := Lib.hid (fun i (h : i < l.length) (g : longP l[i]) => great_yes (most := most) h g)
  obtain ⟨n, hnl⟩ : ∃ n, l.length = n := ⟨_, rfl⟩
  have GN : Hid ((∀ i (hi : i < l.length), ¬ longP (l[i]'hi)) → greatB l most = decide ((most < (n : Int) ∧ (n : Int) ≤ 500) ∨ 510 < (n : Int))) := Lib.hid fun h => by rw [great_no h, hnl]
  clear hl hn
  generalize greatB l most = gb at *
  rw [hnl] at hm ⊢
  have NL := Lib.hid hnl
  clear hnl
  go_enter Tryz.func7, Tryz.ntmps7
  go_wp2_with fail
  go_loop [5] (fun i => ∃ k : Nat, k ≤ n ∧ i = .int .i64 k ∧ Hid (∀ j (h : j < l.length), j < k → ¬ longP (l[j]'h))) (fun i => n - (intOf i).toNat)
  case atStart => exact ⟨0, Nat.zero_le _, rfl, Lib.hid (fun j _ h => by omega)⟩
  case round =>
    obtain ⟨k, hk, rfl, D⟩ := hrel
    by_cases hlt : k < n
    · have hkl : k < l.length := by rw [NL.out]; exact hlt
      have r := HL.out k hkl
      have q0 := r 0 _ rfl
      have q1 := r 1 _ rfl
      rw [Nat.add_zero] at q0
      have i1 : (k : Int) < (n : Int) := by omega
      have GYk := Lib.hid (GY.out k hkl)
      have DK := Lib.hid (fun (g : ¬ longP (l[k]'hkl)) => (show ∀ j (h : j < l.length), j < k + 1 → ¬ longP (l[j]'h) from fun j h hj => by
        by_cases e : j = k
        · subst e; exact g
        · exact D.out j h (by omega)))
      have zz := HN.out _ (List.getElem_mem hkl)
      unfold longP maxLen at *
      clear r D
      generalize (l[k]'hkl).name = nm at *
      generalize (l[k]'hkl).site = st at *
      obtain ⟨z1, z2⟩ := zz
      by_cases g1 : 100 < nm.size
      · have e := Lib.hid (GYk.out (Or.inl g1))
        have g1' : (100 : Int) < nm.size := by omega
        clear GYk DK
        go_wp2_with fail
        go_ret
        exact ⟨by rw [e.out]; rfl, rfl⟩
      · have g1' : ¬ (100 : Int) < nm.size := by omega
        by_cases g2 : 100 < st.size
        · have e := Lib.hid (GYk.out (Or.inr g2))
          have g2' : (100 : Int) < st.size := by omega
          clear GYk DK
          go_wp2_with fail
          go_ret
          exact ⟨by rw [e.out]; rfl, rfl⟩
        · have g2' : ¬ (100 : Int) < st.size := by omega
          have D2 := Lib.hid (DK.out (fun h => h.elim g1 g2))
          clear GYk DK
          go_wp2_with fail
          go_round
          case rel => exact ⟨k + 1, by omega, by go_num, D2⟩
          case measure => simp [intOf]; omega
    · obtain rfl : k = n := by omega
      have E := Lib.hid (GN.out (fun i hi => D.out i hi (by have := NL.out; omega)))
      clear GN D GY HN
      by_cases c1 : most < (k : Int)
      · by_cases c2 : (k : Int) ≤ 500
        · rw [decide_eq_true (Or.inl ⟨c1, c2⟩)] at E
          go_wp2_with fail
          go_ret
          exact ⟨by rw [E.out]; rfl, rfl⟩
        · by_cases c3 : 510 < (k : Int)
          · rw [decide_eq_true (Or.inr c3)] at E
            go_wp2_with fail
            go_ret
            exact ⟨by rw [E.out]; rfl, rfl⟩
          · rw [decide_eq_false (fun h => h.elim (fun x => c2 x.2) c3)] at E
            go_wp2_with fail
            go_ret
            exact ⟨by rw [E.out]; rfl, rfl⟩
      · by_cases c3 : 510 < (k : Int)
        · rw [decide_eq_true (Or.inr c3)] at E
          go_wp2_with fail
          go_ret
          exact ⟨by rw [E.out]; rfl, rfl⟩
        · rw [decide_eq_false (fun h => h.elim (fun x => c1 x.1) c3)] at E
          go_wp2_with fail
          go_ret
          exact ⟨by rw [E.out]; rfl, rfl⟩
set_option maxRecDepth 100000 in
set_option maxHeartbeats 40000000 in
theorem great_nil (x : Option Addr) (cap : Nat) (w : World) : Calls Tryz.prog 7 #[.slice x 0 cap, .int .i64 12] w fun e w' => e = .returned (.bool false) ∧ w = w' := by
  go_enter Tryz.func7, Tryz.ntmps7
  go_wp2_with fail
  go_loop [5] (fun i => i = .int .i64 0) (fun i => 0 - (intOf i).toNat)
  case atStart => exact rfl
  case round =>
    obtain rfl := hrel
    go_wp2_with fail
    go_ret
    exact ⟨rfl, rfl⟩
theorem great_sl (x : Option Addr) (cap : Nat) (l : List Ob) (w : World) (hx : SlA w x l) (hm : l.length ≤ 9223372036854775807) (hb : OBs l) :
    Calls Tryz.prog 7 #[.slice x l.length cap, .int .i64 12] w fun e w' => e = .returned (.bool (greatB l 12)) ∧ w = w' := by
  rcases hx with rfl | ⟨b, off, rfl, _, h⟩
  · refine (great_nil x cap w).mono ?_
    rintro e w' ⟨rfl, rfl⟩
    exact ⟨rfl, rfl⟩
  · exact great_wide b off cap l 12 w h hm (fun o ho => by
      obtain ⟨i, hi, rfl⟩ := List.getElem_of_mem ho
      exact ⟨(hb i hi).n1, (hb i hi).n2⟩)
theorem great_len {l : List Ob} (h : greatB l 12 = false) : l.length ≤ 510 := by
  have := of_decide_eq_false h
  rcases Nat.lt_or_ge 510 l.length with g | g
  · exact absurd (Or.inr (Or.inr (by omega))) this
  · exact g
theorem great_few {l : List Ob} (h : greatB l 12 = false) (g : l.length ≤ 500) : l.length ≤ 12 := by
  have := of_decide_eq_false h
  rcases Nat.lt_or_ge 12 l.length with k | k
  · exact absurd (Or.inr (Or.inl ⟨by omega, by omega⟩)) this
  · exact k
theorem news_l {w : World} {a : Addr} {l : List Ob} (h : SlA w (some a) l) : ∀ j u, (flatO l)[j]? = some u → w.cell? (a.add j) = some u := fun j u hj => by
  rcases h with rfl | ⟨b, off, e, _, h⟩
  · simp [flatO] at hj
  · obtain rfl := Option.some.inj e
    have lj : j < l.length * 8 := by
      have := (List.getElem?_eq_some_iff.1 hj).1
      rwa [flatO_len] at this
    have hi : j / 8 < l.length := by omega
    have hr : j % 8 < (obsC l[j / 8]).length := Nat.mod_lt _ (by omega)
    have e1 := flatO_get hi (List.getElem?_eq_getElem hr)
    rw [show j / 8 * 8 + j % 8 = j by omega] at e1
    have := h (j / 8) hi (j % 8) _ (List.getElem?_eq_getElem hr)
    rw [Addr.add_mid]
    rw [show off + j / 8 * 8 + j % 8 = off + j by omega] at this
    rw [this, ← e1, hj]
/-- append of a slice to an empty one, as the walk meets it. -/
theorem wp_copy {ops : Array Oper} {rest : List Oper} {o : Oper} {a : Act} {Q : Exit → Act → World → Prop} (w : World) (hgd : o.guard = none) (s x : Operand)
    (ho : o.op = .call { callee := .builtin .append, args := #[s, x], argTypes := #[23, 23] })
    (l : List Ob) (ad : Addr) (cap : Nat) (hs : a.eval s = .slice (some ⟨w.heap.size, 0, none⟩) 0 0) (hx : a.eval x = .slice (some ad) l.length cap) (hsl : SlA w (some ad) l) (hl : l.length ≤ 1000000)
    (h : ∀ v' w', OwnO w' w.heap.size v' l → Below w.heap.size w w' → wpList Tryz.prog ops Q rest (a.put o.dst v') w') : wpList Tryz.prog ops Q (o :: rest) a (w.alloc (.cells #[] 57)) := by
  obtain ⟨i0, hi, hz0, hz1, hz2⟩ := info_parts infoO
  have b1 : Below w.heap.size w (w.alloc (.cells #[] 57)) := (Below.refl _ _).alloc (Nat.le_refl _) _
  have ho' := World.ownsRow_made (e := 57) (size := 8) w #[] 0 (Nat.le_refl _) (Nat.zero_le _) rfl
  refine wpList_append_own _ hgd s x 23 ho w.heap.size 57 i0 _ 8 80 Tryz.underlying23 hi hz0 hz1 hz2 rfl (by decide) _ 0 [] hs ho' ad l.length cap (flatO l) hx (flatO_len l) (news_l (hsl.below b1)) (fun u hu => ?_) (by unfold maxLen; omega) (by omega) b1.size ?_
  · obtain ⟨q, _, hq⟩ := List.mem_flatMap.1 hu
    exact obsC_one q u hq
  · intro v' w' h1 h2 _
    rw [Nat.zero_add, List.nil_append] at h1
    have hb : Below w.heap.size w w' := b1.trans ((Below.refl _ _).grown h2 b1.size (fun k hk => (ho'.lt k hk).1))
    exact h v' w' ⟨h1, hb.size⟩ hb
theorem wp_copy0 {ops : Array Oper} {rest : List Oper} {o : Oper} {a : Act} {Q : Exit → Act → World → Prop} (w : World) (hgd : o.guard = none) (s x : Operand)
    (ho : o.op = .call { callee := .builtin .append, args := #[s, x], argTypes := #[23, 23] })
    (hs : a.eval s = .slice (some ⟨w.heap.size, 0, none⟩) 0 0) (hx : a.eval x = .slice none 0 0)
    (h : ∀ v' w', OwnO w' w.heap.size v' [] → Below w.heap.size w w' → wpList Tryz.prog ops Q rest (a.put o.dst v') w') : wpList Tryz.prog ops Q (o :: rest) a (w.alloc (.cells #[] 57)) := by
  obtain ⟨i0, hi, hz0, hz1, hz2⟩ := info_parts infoO
  have b1 : Below w.heap.size w (w.alloc (.cells #[] 57)) := (Below.refl _ _).alloc (Nat.le_refl _) _
  have ho' := World.ownsRow_made (e := 57) (size := 8) w #[] 0 (Nat.le_refl _) (Nat.zero_le _) rfl
  exact wpList_append_own_none hgd s x 23 ho w.heap.size 57 i0 8 Tryz.underlying23 hi _ 0 [] hs ho' hx (h _ _ ⟨ho', b1.size⟩ b1)
end Ow
end Go.Proofs.YtafeigpmldgifaaGreatDoor
/-
  The walk of GreatCatalog of the reference; the law ArchivePrints.
-/
namespace Go.Proofs.YtafeigpmldgifaaGreatDoor
namespace Kw
open Go.RowKit Lw Go.Proofs.YtafeigpmldgifaaGreatDoor.Op Go.Proofs.YtafeigpmldgifaaGreatDoor.Ow Go.Proofs.YtafeigpmldgifaaGreatDoor.Kp Go.Proofs.YtafeigpmldgifaaGreatDoor.Dp

/-- Lengths that any slice has. -/
structure CtL (c : Ct) : Prop where
  fl : c.fl.length ≤ 9223372036854775807
  al : ∀ f ∈ c.fl, f.al.length ≤ 9223372036854775807
  ob : ∀ f ∈ c.fl, f.ob.length ≤ 9223372036854775807
  rest : c.rest.length ≤ 9223372036854775807
  notes : c.notes.length ≤ 9223372036854775807
  note : ∀ n ∈ c.notes, n.size ≤ maxLen
theorem great_len {l : List Ob} (h : greatB l 12 = false) : l.length ≤ 1000 := by
  unfold greatB at h
  have := of_decide_eq_false h
  omega
def GreatPost (c : Ct) (w : World) (e : Ending) (w' : World) : Prop := (e = .returned (.bool true) ∨ (e = .returned (.bool false) ∧ CtS c)) ∧ Below w.heap.size w w'
set_option maxRecDepth 100000 in
set_option maxHeartbeats 16000000 in
theorem rgreat_cat (c : Ct) (x1 x2 x3 : Option Addr) (c1 c2 c3 : Nat) (w : World) (hc : CtA w c x1 c1 x2 c2 x3 c3) (cb : CtB c) (cl : CtL c) :
    Calls Tryz.prog 4 #[.agg (ctC c x1 c1 x2 c2 x3 c3).toArray] w (GreatPost c w) := by
  have P0 := Lib.hid (show RX3 w (ctC c x1 c1 x2 c2 x3 c3) (w.alloc (.cells (ctC c x1 c1 x2 c2 x3 c3).toArray 26)) from ⟨(Below.refl w.heap.size w).alloc (Nat.le_refl _) _, rangeAt_new w _ _, by simp⟩)
  have GR := Lib.hid (fun x cap (l : List Ob) w' (hl : SlA w x l) hn hb (h0 : Below w.heap.size w w') => great_sl x cap l w' (hl.below h0) hn hb)
  have CB := Lib.hid cb
  have CL := Lib.hid cl
  have HC := Lib.hid hc
  clear hc cb cl
  obtain ⟨n1, hn1⟩ : ∃ n, c.fl.length = n := ⟨_, rfl⟩
  obtain ⟨n2, hn2⟩ : ∃ n, c.rest.length = n := ⟨_, rfl⟩
  obtain ⟨n3, hn3⟩ : ∃ n, c.notes.length = n := ⟨_, rfl⟩
  obtain ⟨C, hC⟩ : ∃ C, ctC c x1 c1 x2 c2 x3 c3 = C := ⟨_, rfl⟩
  have C0 : C[0]? = some (.slice x1 n1 c1) := by rw [← hC, ← hn1]; rfl
  have C1 : C[1]? = some (.slice x2 n2 c2) := by rw [← hC, ← hn2]; rfl
  have C2 : C[2]? = some (.slice x3 n3 c3) := by rw [← hC, ← hn3]; rfl
  rw [hC] at P0
  have eC : (ctC c x1 c1 x2 c2 x3 c3).toArray = #[.slice x1 n1 c1, .slice x2 n2 c2, .slice x3 n3 c3] := by rw [← hn1, ← hn2, ← hn3]
  rw [eC]
  have eC2 : C.toArray = #[.slice x1 n1 c1, .slice x2 n2 c2, .slice x3 n3 c3] := by rw [← hC, eC]
  rw [eC2] at P0
  have Z1 : n1 ≤ 9223372036854775807 := by rw [← hn1]; exact CL.out.fl
  have Z2 : n2 ≤ 9223372036854775807 := by rw [← hn2]; exact CL.out.rest
  have Z3 : n3 ≤ 9223372036854775807 := by rw [← hn3]; exact CL.out.notes
  have N1 := Lib.hid hn1
  have N2 := Lib.hid hn2
  have N3 := Lib.hid hn3
  clear hn1 hn2 hn3 hC eC eC2
  go_enter Tryz.func4, Tryz.ntmps4
  go_wp2_with fail
  go_loopw [3] (fun i wr => ∃ (k : Nat), k ≤ n1 ∧ i = .int .i64 k ∧ Hid ((∀ j (h : j < c.fl.length), j < k → (c.fl[j]'h).al.length ≤ 20 ∧ (c.fl[j]'h).ob.length ≤ 1000) ∧ RX3 w C wr)) (fun i _ => n1 - (intOf i).toNat)
  case atStart => exact ⟨0, Nat.zero_le _, rfl, Lib.hid ⟨fun j _ h => absurd h (Nat.not_lt_zero j), P0.out⟩⟩
  case round =>
    obtain ⟨k, hk, rfl, D⟩ := hrel
    clear P0
    obtain ⟨hok, hp⟩ := D.out
    have HOK := Lib.hid hok
    have HP := Lib.hid hp
    have q0 := HP.out.box 0 _ C0
    simp only [Nat.zero_add] at q0
    clear D hok hp
    by_cases hlt : k < n1
    · have hkl : k < c.fl.length := by rw [N1.out]; exact hlt
      rcases HC.out.fl with h | ⟨b, off, hx, lt, row⟩
      · exfalso
        rw [h] at hkl
        exact absurd hkl (Nat.not_lt_zero k)
      · subst hx
        have rk := row k hkl
        have hf : c.fl[k]'hkl ∈ c.fl := List.getElem_mem hkl
        have zal := CL.out.al _ hf
        have zob := CL.out.ob _ hf
        have OBB := Lib.hid (CB.out.ob _ hf)
        have OKN := Lib.hid (fun (h : (c.fl[k]'hkl).al.length ≤ 20 ∧ (c.fl[k]'hkl).ob.length ≤ 1000) => show ∀ j (hj : j < c.fl.length), j < k + 1 → (c.fl[j]'hj).al.length ≤ 20 ∧ (c.fl[j]'hj).ob.length ≤ 1000 from fun j hj h2 => by
          by_cases e : j = k
          · subst e; exact h
          · exact HOK.out j hj (by omega))
        clear row hf HOK
        generalize c.fl[k]'hkl = f at *
        obtain ⟨xa, ca, xo, co, r, da, so⟩ := rk
        have R := rangeAt_below r HP.out.below lt
        have r5 := R 5 _ rfl
        have r6 := R 6 _ rfl
        have SO := Lib.hid so
        clear r da so lt R
        have GX := Lib.hid (GR.out xo co f.ob wr SO.out zob OBB.out HP.out.below)
        obtain ⟨m, hm⟩ : ∃ m, f.al.length = m := ⟨_, rfl⟩
        have M := Lib.hid hm
        rw [hm] at r5 zal
        clear hm SO OBB
        have i1 : (k : Int) < (n1 : Int) := by omega
        by_cases h20 : 20 < m
        · have i2 : (20 : Int) < (m : Int) := by omega
          clear GX OKN M
          go_wp2_with fail
          go_ret
          exact ⟨Or.inl rfl, HP.out.below⟩
        · have i2 : ¬ (20 : Int) < (m : Int) := by omega
          go_wp2_with fail
          refine GX.out.mono ?_
          rintro e w5 ⟨rfl, rfl⟩
          obtain ⟨B, hB⟩ : ∃ B, greatB f.ob 12 = B := ⟨_, rfl⟩
          have HB := Lib.hid hB
          rw [hB]
          clear hB GX
          cases B
          · have OS := Lib.hid (OKN.out ⟨by rw [M.out]; omega, great_len HB.out⟩)
            clear OKN
            go_wp2_with fail
            go_roundw
            case rel => exact ⟨k + 1, by omega, by go_num, Lib.hid ⟨OS.out, HP.out⟩⟩
            case measure => simp [intOf]; omega
          · clear OKN
            go_wp2_with fail
            go_ret
            exact ⟨Or.inl rfl, HP.out.below⟩
    · obtain rfl : k = n1 := by omega
      have i1 : ¬ (k : Int) < (k : Int) := by omega
      have ALL := Lib.hid (show ∀ f ∈ c.fl, f.al.length ≤ 20 ∧ f.ob.length ≤ 1000 from fun f hf => by
        obtain ⟨j, hj, rfl⟩ := List.getElem_of_mem hf
        exact HOK.out j hj (by rw [← N1.out]; exact hj))
      clear HOK
      go_wp2_with fail
      go_loopw [4] (fun i wr => ∃ (j : Nat), j ≤ n3 ∧ i = .int .i64 j ∧ Hid ((∀ i (h : i < c.notes.length), i < j → (c.notes[i]'h).size ≤ 1000) ∧ RX3 w C wr)) (fun i _ => n3 - (intOf i).toNat)
      case atStart => exact ⟨0, Nat.zero_le _, rfl, Lib.hid ⟨fun j _ h => absurd h (Nat.not_lt_zero j), HP.out⟩⟩
      case round =>
        obtain ⟨i, hi, rfl, D⟩ := hrel
        obtain ⟨hok, hp⟩ := D.out
        have HOK := Lib.hid hok
        have PN := Lib.hid hp
        have q0' := PN.out.box 0 _ C0
        have q1' := PN.out.box 1 _ C1
        have q2' := PN.out.box 2 _ C2
        simp only [Nat.zero_add] at q0' q1' q2'
        clear D hok hp HP q0
        by_cases hli : i < n3
        · have hil : i < c.notes.length := by rw [N3.out]; exact hli
          rcases HC.out.notes with h | ⟨b3, off3, hx, lt3, row3⟩
          · exfalso
            rw [h] at hil
            exact absurd hil (Nat.not_lt_zero i)
          · subst hx
            have qn := rangeAt_below (row3 i hil) PN.out.below lt3 0 _ rfl
            rw [Nat.add_zero] at qn
            have OKN := Lib.hid (fun (h : (c.notes[i]'hil).size ≤ 1000) => show ∀ j (hj : j < c.notes.length), j < i + 1 → (c.notes[j]'hj).size ≤ 1000 from fun j hj h2 => by
              by_cases e : j = i
              · subst e; exact h
              · exact HOK.out j hj (by omega))
            have zn := CL.out.note _ (List.getElem_mem hil)
            clear row3 lt3 HOK
            generalize c.notes[i]'hil = nt at *
            obtain ⟨z, hz⟩ : ∃ z, nt.size = z := ⟨_, rfl⟩
            have HZ := Lib.hid hz
            have i2 : (i : Int) < (n3 : Int) := by omega
            unfold maxLen at zn
            by_cases hz2 : 1000 < nt.size
            · have i3 : (1000 : Int) < (nt.size : Int) := by omega
              clear OKN hz
              go_wp2_with fail
              go_ret
              exact ⟨Or.inl rfl, PN.out.below⟩
            · have i3 : ¬ (1000 : Int) < (nt.size : Int) := by omega
              have OS := Lib.hid (OKN.out (by omega))
              clear OKN hz
              go_wp2_with fail
              go_roundw
              case rel => exact ⟨i + 1, by omega, by go_num, Lib.hid ⟨OS.out, PN.out⟩⟩
              case measure => simp [intOf]; omega
        · obtain rfl : i = n3 := by omega
          have i2 : ¬ (i : Int) < (i : Int) := by omega
          have ALN := Lib.hid (show ∀ n ∈ c.notes, n.size ≤ 1000 from fun n hn => by
            obtain ⟨j, hj, rfl⟩ := List.getElem_of_mem hn
            exact HOK.out j hj (by rw [← N3.out]; exact hj))
          clear HOK
          have GX := GR.out x2 c2 c.rest wr HC.out.rest (by rw [N2.out]; exact Z2) CB.out.rest PN.out.below
          rw [N2.out] at GX
          have GX := Lib.hid GX
          by_cases h12 : 12 < k
          · have i3 : (12 : Int) < (k : Int) := by omega
            clear GX
            go_wp2_with fail
            go_ret
            exact ⟨Or.inl rfl, PN.out.below⟩
          · have i3 : ¬ (12 : Int) < (k : Int) := by omega
            go_wp2_with fail
            refine GX.out.mono ?_
            rintro e w5 ⟨rfl, rfl⟩
            obtain ⟨B, hB⟩ : ∃ B, greatB c.rest 12 = B := ⟨_, rfl⟩
            have HB := Lib.hid hB
            rw [hB]
            clear hB GX
            cases B
            · by_cases h30 : 30 < i
              · have i4 : (30 : Int) < (i : Int) := by omega
                go_wp2_with fail
                go_ret
                exact ⟨Or.inl (by first | rfl | simp [i4]), PN.out.below⟩
              · have i4 : ¬ (30 : Int) < (i : Int) := by omega
                go_wp2_with fail
                go_ret
                exact ⟨Or.inr ⟨by first | rfl | simp [i4], ⟨by rw [N1.out]; omega, fun f hf => (ALL.out f hf).1, fun f hf => (ALL.out f hf).2, great_len HB.out, by rw [N3.out]; omega, ALN.out⟩⟩, PN.out.below⟩
            · go_wp2_with fail
              go_ret
              exact ⟨Or.inl rfl, PN.out.below⟩
theorem info3 : (Tryz.prog.info? 26).map (·.size) = some 3 := by kernel_rfl
set_option maxRecDepth 100000 in
set_option maxHeartbeats 16000000 in
/-- The law ArchivePrints. -/
theorem prints_any (c : Ct) (x1 x2 x3 : Option Addr) (c1 c2 c3 : Nat) (w : World) (hT : Gt.Tab w) (hE : ES w) (hB : Dw.Tb w) (hc : CtA w c x1 c1 x2 c2 x3 c3) (cb : CtB c) (cl : CtL c) :
    Calls Tryz.prog 3 #[.agg (ctC c x1 c1 x2 c2 x3 c3).toArray] w fun e w' => e = .returned (.bool true) ∧ Below w.heap.size w w' := by
  have P0 := Lib.hid (show RX3 w (ctC c x1 c1 x2 c2 x3 c3) (w.alloc (.cells (ctC c x1 c1 x2 c2 x3 c3).toArray 26)) from ⟨(Below.refl w.heap.size w).alloc (Nat.le_refl _) _, rangeAt_new w _ _, by simp⟩)
  have GR := Lib.hid (fun w' (h : Below w.heap.size w w') => rgreat_cat c x1 x2 x3 c1 c2 c3 w' (hc.below h) cb cl)
  have PC := Lib.hid (fun w' (h : Below w.heap.size w w') (cs : CtS c) => print_cat c x1 x2 x3 c1 c2 c3 w' (hT.below h) (hE.below h) (hB.below h) (hc.below h) cb cs)
  have RP := Lib.hid (fun w' (h : Below w.heap.size w w') (cs : CtS c) => rprint_cat c x1 x2 x3 c1 c2 c3 w' (hc.below h) cb cs)
  clear hT hE hB hc cb cl
  have LN : (ctC c x1 c1 x2 c2 x3 c3).length = 3 := rfl
  have eC : (ctC c x1 c1 x2 c2 x3 c3).toArray = #[.slice x1 c.fl.length c1, .slice x2 c.rest.length c2, .slice x3 c.notes.length c3] := rfl
  rw [eC] at P0 ⊢
  go_enter Tryz.func3, Tryz.ntmps3
  go_wp2_with (refine wpList_load_mid rfl _ (.tmp 1) rfl w.heap.size 0 rfl (ctC c x1 c1 x2 c2 x3 c3) _ P0.out.box Tryz.underlying26 rfl info3 ?_)
  refine (GR.out _ P0.out.below).mono ?_
  rintro e w1 ⟨h, hb⟩
  have P1 := Lib.hid (P0.out.call hb)
  clear hb P0 GR
  rcases h with rfl | ⟨rfl, cs⟩
  · go_wp2_with fail
    go_ret
    exact ⟨rfl, P1.out.below⟩
  · have CS := Lib.hid cs
    clear cs
    go_wp2_with (refine wpList_load_mid rfl _ (.tmp 1) rfl w.heap.size 0 rfl (ctC c x1 c1 x2 c2 x3 c3) _ P1.out.box Tryz.underlying26 rfl info3 ?_)
    refine (PC.out _ P1.out.below CS.out).mono ?_
    rintro e w2 ⟨s, k, rfl, I1, hb⟩
    have P2 := Lib.hid (P1.out.call hb)
    have J1 := Lib.hid I1
    clear hb P1 PC I1
    go_wp2_with (refine wpList_load_mid rfl _ (.tmp 1) rfl w.heap.size 0 rfl (ctC c x1 c1 x2 c2 x3 c3) _ P2.out.box Tryz.underlying26 rfl info3 ?_)
    refine (RP.out _ P2.out.below CS.out).mono ?_
    rintro e w3 ⟨s', k', rfl, I2, hb⟩
    obtain ⟨rfl, rfl⟩ := J1.out.uniq I2
    have P3 := Lib.hid (P2.out.call hb)
    clear hb P2 RP I2 J1
    go_wp2_with fail
    go_ret
    exact ⟨by first | rfl | simp, P3.out.below⟩
end Kw
end Go.Proofs.YtafeigpmldgifaaGreatDoor
/-
  An argument that is a list of observations, opened.
-/
namespace Go.Proofs.YtafeigpmldgifaaGreatDoor
namespace Ow
open Go.RowKit Lw Go.Proofs.YtafeigpmldgifaaGreatDoor.Op Go.ChangeShapes Go.WideShapes Go.Deep

section
variable {H : Type} {enc : TypeId × Value → H} {P : Program} {w : World} {base : Nat} {spare : Nat → Bool} {held : Bool}
theorem elem_fields {e : TypeId} {fs : Array Field} {fuel : Nat} {a : Addr} {cs : List Value} {x : DataW H × List MemPlace} (he : P.underlying e = some (.struct fs)) (hone : oneCellFields P fs = true) (hC : P.cellsOf e = fs.size)
    (hc : w.cells? base a (P.cellsOf e) = some cs) (ht : DataW.trod enc P w base spare held fuel e cs = some x) :
    ∃ n, ∀ j f, fs[j]? = some f → ∃ v y, w.cell? (a.add j) = some v ∧ DataW.trod enc P w base spare held n f.type [v] = some y := by
  rw [hC] at hc
  obtain ⟨ys, n, _, hy, hlen, hyl, hf⟩ := DataW.trod_struct he ht
  obtain ⟨_, hcl, hat⟩ := World.cells?_some hc
  refine ⟨n, fun j f hj => ?_⟩
  obtain ⟨ho, hk⟩ := hone_of hone j f hj
  have hjl : j < fs.size := (Array.getElem?_eq_some_iff.1 hj).1
  have h1 := hf j f hj
  rw [ho, hk, List.drop_eq_getElem_cons (show j < cs.length by omega)] at h1
  have hys : ys[j]? = some (ys[j]'(by omega)) := List.getElem?_eq_getElem (by omega)
  exact ⟨_, _, (hat j hjl).trans (List.getElem?_eq_getElem (by omega)), h1.trans hys⟩
end
theorem block_lt {w : World} {a : Addr} {v : Value} (h : w.cell? a = some v) : a.block < w.heap.size ∧ a.spot = none := by
  unfold World.cell? at h
  split at h
  · rename_i c _ _ hh
    refine ⟨(Array.getElem?_eq_some_iff.1 hh).1, ?_⟩
    cases hs : a.spot with
    | none => rfl
    | some s => simp [hs] at h
  · cases h
theorem one_of {a b : Value} (h : [a] = [b]) : a = b := by injection h
theorem add_none {b off k : Nat} : (⟨b, off, none⟩ : Addr).add k = ⟨b, off + k, none⟩ := Addr.add_mid b off k
/-- One element. -/
theorem obs_elem {H : Type} {enc : TypeId × Value → H} {w : World} {base : Nat} {spare : Nat → Bool} {held : Bool} {m b off : Nat} {cs : List Value} {x : DataW H × List MemPlace}
    (hc : w.cells? base ⟨b, off, none⟩ (Tryz.prog.cellsOf 57) = some cs) (ht : DataW.trod enc Tryz.prog w base spare held m 57 cs = some x) :
    ∃ o : Ob, OB o ∧ w.rangeAt b off (obsC o) := by
  obtain ⟨n, hf⟩ := elem_fields Tryz.underlying57 (by kernel_rfl) (by kernel_rfl) hc ht
  obtain ⟨v0, y0, k0, t0⟩ := hf 0 _ rfl
  obtain ⟨v1, y1, k1, t1⟩ := hf 1 _ rfl
  obtain ⟨v2, y2, k2, t2⟩ := hf 2 _ rfl
  obtain ⟨v3, y3, k3, t3⟩ := hf 3 _ rfl
  obtain ⟨v4, y4, k4, t4⟩ := hf 4 _ rfl
  obtain ⟨v5, y5, k5, t5⟩ := hf 5 _ rfl
  obtain ⟨v6, y6, k6, t6⟩ := hf 6 _ rfl
  obtain ⟨v7, y7, k7, t7⟩ := hf 7 _ rfl
  obtain ⟨a0, e0, _, w0⟩ := DataW.trod_string Tryz.underlying9 t0
  obtain ⟨a1, e1, _, w1⟩ := DataW.trod_string Tryz.underlying9 t1
  obtain ⟨a2, e2, _, w2⟩ := DataW.trod_int Tryz.underlying2 t2
  obtain ⟨a3, e3, _, w3⟩ := DataW.trod_int Tryz.underlying2 t3
  obtain ⟨a4, e4, _, w4⟩ := DataW.trod_int Tryz.underlying2 t4
  obtain ⟨a5, e5, _, w5⟩ := DataW.trod_int Tryz.underlying2 t5
  obtain ⟨a6, e6, _, w6⟩ := DataW.trod_int Tryz.underlying3 t6
  obtain ⟨a7, e7, _, w7⟩ := DataW.trod_int Tryz.underlying5 t7
  obtain rfl := one_of e0
  obtain rfl := one_of e1
  obtain rfl := one_of e2
  obtain rfl := one_of e3
  obtain rfl := one_of e4
  obtain rfl := one_of e5
  obtain rfl := one_of e6
  obtain rfl := one_of e7
  have b2 := bounds_i64 w2
  have b7 := bounds_u8 w7
  rw [add_none] at k0 k1 k2 k3 k4 k5 k6 k7
  refine ⟨⟨a0, a1, a2, a3, a4, a5, a6, a7⟩, ⟨b2.1, b2.2, b7.1, by show a7 ≤ 255; omega, w0, w1⟩, fun j v hv => ?_⟩
  match j, hv with
  | 0, hv => cases hv; exact k0
  | 1, hv => cases hv; exact k1
  | 2, hv => cases hv; exact k2
  | 3, hv => cases hv; exact k3
  | 4, hv => cases hv; exact k4
  | 5, hv => cases hv; exact k5
  | 6, hv => cases hv; exact k6
  | 7, hv => cases hv; exact k7
  | k + 8, hv => simp at hv
theorem obs_list {H : Type} {enc : TypeId × Value → H} {w : World} {base : Nat} {spare : Nat → Bool} {held : Bool} {x : Option Addr} {len cap : Nat} {d : DataW H} {p : List MemPlace}
    (h : DataW.Trod enc Tryz.prog w base spare held 23 (.slice x len cap) d p) :
    len ≤ 9223372036854775807 ∧ ∃ l : List Ob, l.length = len ∧ SlA w x l ∧ OBs l ∧ (x = none → l = [] ∧ cap = 0) := by
  obtain ⟨fuel, hf⟩ := h
  rcases open_slice Tryz.underlying23 hf with ⟨hc, _⟩ | ⟨a, ln, cp, m, n, D, Pl, hcs, hb, hl, hmx, hmm, hx, hi⟩
  · have := one_of hc
    cases this
    exact ⟨by omega, [], rfl, Or.inl rfl, fun i hi => by simp at hi, fun _ => ⟨rfl, rfl⟩⟩
  · have := one_of hcs
    cases this
    refine ⟨by unfold maxLen at hmx; omega, ?_⟩
    by_cases h0 : len = 0
    · subst h0
      exact ⟨[], rfl, Or.inl rfl, fun i hi => by simp at hi, fun h => by cases h⟩
    · have hml : len ≤ m := by rw [hmm]; split <;> omega
      obtain ⟨b, off, spot⟩ := a
      obtain ⟨cs0, hc0, ht0⟩ := hi 0 (by omega)
      obtain ⟨n0, hf0⟩ := elem_fields Tryz.underlying57 (by kernel_rfl) (by kernel_rfl) hc0 ht0
      obtain ⟨v0, y0, k0, _⟩ := hf0 0 _ rfl
      have k0' : w.cell? ⟨b, off, spot⟩ = some v0 := by simpa [Addr.add] using k0
      obtain ⟨hlt, hsp⟩ := block_lt k0'
      obtain rfl : spot = none := hsp
      have hc8 : Tryz.prog.cellsOf 57 = 8 := by kernel_rfl
      have key : ∀ k, ∃ o : Ob, k < len → OB o ∧ w.rangeAt b (off + k * 8) (obsC o) := fun k => by
        by_cases hk : k < len
        · obtain ⟨cs', hc', ht'⟩ := hi k (by omega)
          rw [add_none] at hc'
          obtain ⟨o, ho⟩ := obs_elem hc' ht'
          rw [hc8] at ho
          exact ⟨o, fun _ => ho⟩
        · exact ⟨zeroO, fun g => absurd g hk⟩
      obtain ⟨R, hR⟩ := Classical.axiomOfChoice key
      refine ⟨(List.range len).map R, by simp, Or.inr ⟨b, off, rfl, hlt, fun i hi => ?_⟩, fun i hi => ?_, fun h => by cases h⟩
      · have hi' : i < len := by simpa using hi
        rw [List.getElem_map, List.getElem_range]
        exact (hR i hi').2
      · have hi' : i < len := by simpa using hi
        rw [List.getElem_map, List.getElem_range]
        exact (hR i hi').1
end Ow
end Go.Proofs.YtafeigpmldgifaaGreatDoor
/-
  An argument that is a catalogue, opened.
-/
namespace Go.Proofs.YtafeigpmldgifaaGreatDoor
namespace Kw
open Go.RowKit Lw Go.Proofs.YtafeigpmldgifaaGreatDoor.Op Go.Proofs.YtafeigpmldgifaaGreatDoor.Ow Go.Proofs.YtafeigpmldgifaaGreatDoor.Kp Go.Proofs.YtafeigpmldgifaaGreatDoor.Dp Go.ChangeShapes Go.WideShapes Go.Deep

section
variable {H : Type} {enc : TypeId × Value → H} {w : World} {base : Nat} {spare : Nat → Bool} {held : Bool}
theorem cells_lt {a : Addr} {n : Nat} {cs : List Value} (hn : 0 < n) (h : w.cells? base a n = some cs) : a.block < w.heap.size ∧ a.spot = none := by
  obtain ⟨_, hl, hat⟩ := World.cells?_some h
  have h0 := hat 0 hn
  rw [List.getElem?_eq_getElem (by omega)] at h0
  have e : a.add 0 = a := by simp [Addr.add]
  rw [e] at h0
  exact block_lt h0
/-- A slice of whatever elements. -/
theorem open_rows {α : Type} [Inhabited α] {t e : TypeId} {fuel : Nat} {x : Option Addr} {len cap : Nat} {y : DataW H × List MemPlace} (S : Nat) (hS : Tryz.prog.cellsOf e = S) (hp : 0 < S) (ht : Tryz.prog.underlying t = some (.slice e)) (Pr : Nat → Nat → α → Prop)
    (elem : ∀ b off m cs z, w.cells? base ⟨b, off, none⟩ S = some cs → DataW.trod enc Tryz.prog w base spare held m e cs = some z → ∃ o, Pr b off o)
    (h : DataW.trod enc Tryz.prog w base spare held fuel t [.slice x len cap] = some y) :
    len ≤ 9223372036854775807 ∧ ∃ l : List α, l.length = len ∧ (l = [] ∨ ∃ b off, x = some ⟨b, off, none⟩ ∧ b < w.heap.size ∧ ∀ i (h : i < l.length), Pr b (off + i * S) (l[i]'h)) := by
  rcases open_slice ht h with ⟨hc, _⟩ | ⟨a, ln, cp, m, n, D, Pl, hcs, hb, hl, hmx, hmm, hx, hi⟩
  · have := one_of hc
    cases this
    exact ⟨by omega, [], rfl, Or.inl rfl⟩
  · have := one_of hcs
    cases this
    refine ⟨by unfold maxLen at hmx; omega, ?_⟩
    rw [hS] at hi
    by_cases h0 : len = 0
    · subst h0
      exact ⟨[], rfl, Or.inl rfl⟩
    · have hml : len ≤ m := by rw [hmm]; split <;> omega
      obtain ⟨b, off, spot⟩ := a
      obtain ⟨cs0, hc0, ht0⟩ := hi 0 (by omega)
      have lt0 := cells_lt hp hc0
      have hsp : spot = none := by
        have := lt0.2
        simpa [Addr.add] using this
      have hlt : b < w.heap.size := by
        have := lt0.1
        simpa [Addr.add] using this
      subst hsp
      have key : ∀ k, ∃ o : α, k < len → Pr b (off + k * S) o := fun k => by
        by_cases hk : k < len
        · obtain ⟨cs', hc', ht'⟩ := hi k (by omega)
          rw [add_none] at hc'
          obtain ⟨o, ho⟩ := elem b (off + k * S) n cs' _ hc' ht'
          exact ⟨o, fun _ => ho⟩
        · exact ⟨default, fun g => absurd g hk⟩
      obtain ⟨R, hR⟩ := Classical.axiomOfChoice key
      refine ⟨(List.range len).map R, by simp, Or.inr ⟨b, off, rfl, hlt, fun i hi => ?_⟩⟩
      have hi' : i < len := by simpa using hi
      rw [List.getElem_map, List.getElem_range]
      exact hR i hi'
instance : Inhabited Dg := ⟨zeroG⟩
instance : Inhabited Fl := ⟨⟨zeroG, [], []⟩⟩
def dgB (d : Dg) : Prop := 0 ≤ d.h ∧ d.h < 256 ∧ 0 ≤ d.s ∧ d.s < 256
theorem dg_elem {m b off : Nat} {cs : List Value} {x : DataW H × List MemPlace}
    (hc : w.cells? base ⟨b, off, none⟩ 5 = some cs) (ht : DataW.trod enc Tryz.prog w base spare held m 34 cs = some x) :
    ∃ d : Dg, w.rangeAt b off (dgC d) ∧ dgB d := by
  obtain ⟨n, hf⟩ := elem_fields Tryz.underlying34 (by kernel_rfl) (by kernel_rfl) (by rw [show Tryz.prog.cellsOf 34 = 5 by kernel_rfl]; exact hc) ht
  obtain ⟨v0, y0, k0, t0⟩ := hf 0 _ rfl
  obtain ⟨v1, y1, k1, t1⟩ := hf 1 _ rfl
  obtain ⟨v2, y2, k2, t2⟩ := hf 2 _ rfl
  obtain ⟨v3, y3, k3, t3⟩ := hf 3 _ rfl
  obtain ⟨v4, y4, k4, t4⟩ := hf 4 _ rfl
  obtain ⟨a0, e0, _, w0⟩ := DataW.trod_int Tryz.underlying3 t0
  obtain ⟨a1, e1, _, w1⟩ := DataW.trod_int Tryz.underlying3 t1
  obtain ⟨a2, e2, _, w2⟩ := DataW.trod_int Tryz.underlying5 t2
  obtain ⟨a3, e3, _, w3⟩ := DataW.trod_int Tryz.underlying5 t3
  obtain ⟨a4, e4, _, w4⟩ := DataW.trod_int Tryz.underlying3 t4
  obtain rfl := one_of e0
  obtain rfl := one_of e1
  obtain rfl := one_of e2
  obtain rfl := one_of e3
  obtain rfl := one_of e4
  have b2 := bounds_u8 w2
  have b3 := bounds_u8 w3
  rw [add_none] at k0 k1 k2 k3 k4
  refine ⟨⟨a0, a1, a2, a3, a4⟩, fun j v hv => ?_, ⟨b2.1, by show a2 < 256; omega, b3.1, by show a3 < 256; omega⟩⟩
  match j, hv with
  | 0, hv => cases hv; exact k0
  | 1, hv => cases hv; exact k1
  | 2, hv => cases hv; exact k2
  | 3, hv => cases hv; exact k3
  | 4, hv => cases hv; exact k4
  | k + 5, hv => simp at hv
theorem tx_elem {m b off : Nat} {cs : List Value} {x : DataW H × List MemPlace}
    (hc : w.cells? base ⟨b, off, none⟩ 1 = some cs) (ht : DataW.trod enc Tryz.prog w base spare held m 9 cs = some x) :
    ∃ s : ByteArray, w.rangeAt b off [.string s] ∧ s.size ≤ maxLen := by
  obtain ⟨s, e, _, hs⟩ := DataW.trod_string Tryz.underlying9 ht
  obtain ⟨_, hl, hat⟩ := World.cells?_some hc
  subst e
  refine ⟨s, fun j v hv => ?_, hs⟩
  match j, hv with
  | 0, hv =>
    cases hv
    have := hat 0 (by omega)
    rw [add_none] at this
    exact this
  | k + 1, hv => simp at hv
theorem slice_form {t e : TypeId} {fuel : Nat} {v : Value} {y : DataW H × List MemPlace} (ht : Tryz.prog.underlying t = some (.slice e)) (h : DataW.trod enc Tryz.prog w base spare held fuel t [v] = some y) : ∃ x len cap, v = .slice x len cap := by
  rcases open_slice ht h with ⟨hc, _⟩ | ⟨a, ln, cp, m, n, D, Pl, hcs, _⟩
  · exact ⟨_, _, _, one_of hc⟩
  · exact ⟨_, _, _, one_of hcs⟩
theorem dg_list {fuel : Nat} {x : Option Addr} {len cap : Nat} {y : DataW H × List MemPlace} (h : DataW.trod enc Tryz.prog w base spare held fuel 35 [.slice x len cap] = some y) :
    len ≤ 9223372036854775807 ∧ ∃ l : List Dg, l.length = len ∧ DlA w x l ∧ ∀ d ∈ l, dgB d := by
  obtain ⟨hm, l, hl, hx⟩ := open_rows 5 (by kernel_rfl) (by omega) Tryz.underlying35 (fun b off d => w.rangeAt b off (dgC d) ∧ dgB d) (fun b off m cs z h1 h2 => dg_elem h1 h2) h
  refine ⟨hm, l, hl, ?_, fun d hd => ?_⟩
  · rcases hx with h | ⟨b, off, h1, h2, h3⟩
    · exact Or.inl h
    · exact Or.inr ⟨b, off, h1, h2, fun i hi => (h3 i hi).1⟩
  · obtain ⟨i, hi, rfl⟩ := List.getElem_of_mem hd
    rcases hx with h | ⟨b, off, h1, h2, h3⟩
    · subst h; exact absurd hi (Nat.not_lt_zero _)
    · exact (h3 i hi).2
theorem tx_list {fuel : Nat} {x : Option Addr} {len cap : Nat} {y : DataW H × List MemPlace} (h : DataW.trod enc Tryz.prog w base spare held fuel 24 [.slice x len cap] = some y) :
    len ≤ 9223372036854775807 ∧ ∃ l : List ByteArray, l.length = len ∧ TxA w x l ∧ ∀ s ∈ l, s.size ≤ maxLen := by
  obtain ⟨hm, l, hl, hx⟩ := open_rows (α := ByteArray) 1 (by kernel_rfl) (by omega) Tryz.underlying24 (fun b off s => w.rangeAt b off [.string s] ∧ s.size ≤ maxLen) (fun b off m cs z h1 h2 => tx_elem h1 h2) h
  refine ⟨hm, l, hl, ?_, fun d hd => ?_⟩
  · rcases hx with h | ⟨b, off, h1, h2, h3⟩
    · exact Or.inl h
    · exact Or.inr ⟨b, off, h1, h2, fun i hi => by
        have := (h3 i hi).1
        rw [Nat.mul_one] at this
        exact this⟩
  · obtain ⟨i, hi, rfl⟩ := List.getElem_of_mem hd
    rcases hx with h | ⟨b, off, h1, h2, h3⟩
    · subst h; exact absurd hi (Nat.not_lt_zero _)
    · exact (h3 i hi).2
def flP (w : World) (b off : Nat) (f : Fl) : Prop := FlAt w b off f ∧ (∀ d ∈ f.al, dgB d) ∧ OBs f.ob ∧ f.al.length ≤ 9223372036854775807 ∧ f.ob.length ≤ 9223372036854775807
theorem field_of {fs : Array Field} {n : Nat} {cs : List Value} {xs : List (DataW H × List MemPlace)} (hf : ∀ (i : Nat) (f : Field), fs[i]? = some f → DataW.trod enc Tryz.prog w base spare held n f.type ((cs.drop f.offset).take (Tryz.prog.cellsOf f.type)) = xs[i]?)
    (i ty off cnt : Nat) (f : Field) (hi : fs[i]? = some f) (hty : f.type = ty) (ho : f.offset = off) (hc : Tryz.prog.cellsOf ty = cnt) (hx : i < xs.length) : DataW.trod enc Tryz.prog w base spare held n ty ((cs.drop off).take cnt) = some (xs[i]'hx) := by
  have := hf i f hi
  rw [hty, ho, hc, List.getElem?_eq_getElem hx] at this
  exact this
theorem fl_elem {m b off : Nat} {cs : List Value} {x : DataW H × List MemPlace}
    (hc : w.cells? base ⟨b, off, none⟩ 7 = some cs) (ht : DataW.trod enc Tryz.prog w base spare held m 39 cs = some x) : ∃ f : Fl, flP w b off f := by
  obtain ⟨_, hl, hat⟩ := World.cells?_some hc
  match cs, hl with
  | [v0, v1, v2, v3, v4, v5, v6], _ =>
    obtain ⟨ys, n, _, _, _, hyl, hf⟩ := DataW.trod_struct Tryz.underlying39 ht
    have g0 : DataW.trod enc Tryz.prog w base spare held n 37 [v0, v1, v2, v3, v4, v5] = some (ys[0]'(by rw [hyl]; decide)) := field_of hf 0 _ 0 6 _ rfl rfl rfl (by kernel_rfl) (by rw [hyl]; decide)
    have g1 : DataW.trod enc Tryz.prog w base spare held n 23 [v6] = some (ys[1]'(by rw [hyl]; decide)) := field_of hf 1 _ 6 1 _ rfl rfl rfl (by kernel_rfl) (by rw [hyl]; decide)
    obtain ⟨zs, n', _, _, _, hzl, hg⟩ := DataW.trod_struct Tryz.underlying37 g0
    have j0 : DataW.trod enc Tryz.prog w base spare held n' 34 [v0, v1, v2, v3, v4] = some (zs[0]'(by rw [hzl]; decide)) := field_of hg 0 _ 0 5 _ rfl rfl rfl (by kernel_rfl) (by rw [hzl]; decide)
    have j1 : DataW.trod enc Tryz.prog w base spare held n' 35 [v5] = some (zs[1]'(by rw [hzl]; decide)) := field_of hg 1 _ 5 1 _ rfl rfl rfl (by kernel_rfl) (by rw [hzl]; decide)
    obtain ⟨us, n2, _, _, _, hul, hu⟩ := DataW.trod_struct Tryz.underlying34 j0
    have i0 : DataW.trod enc Tryz.prog w base spare held n2 3 [v0] = some (us[0]'(by rw [hul]; decide)) := field_of hu 0 _ 0 1 _ rfl rfl rfl (by kernel_rfl) (by rw [hul]; decide)
    have i1 : DataW.trod enc Tryz.prog w base spare held n2 3 [v1] = some (us[1]'(by rw [hul]; decide)) := field_of hu 1 _ 1 1 _ rfl rfl rfl (by kernel_rfl) (by rw [hul]; decide)
    have i2 : DataW.trod enc Tryz.prog w base spare held n2 5 [v2] = some (us[2]'(by rw [hul]; decide)) := field_of hu 2 _ 2 1 _ rfl rfl rfl (by kernel_rfl) (by rw [hul]; decide)
    have i3 : DataW.trod enc Tryz.prog w base spare held n2 5 [v3] = some (us[3]'(by rw [hul]; decide)) := field_of hu 3 _ 3 1 _ rfl rfl rfl (by kernel_rfl) (by rw [hul]; decide)
    have i4 : DataW.trod enc Tryz.prog w base spare held n2 3 [v4] = some (us[4]'(by rw [hul]; decide)) := field_of hu 4 _ 4 1 _ rfl rfl rfl (by kernel_rfl) (by rw [hul]; decide)
    obtain ⟨a0, e0, _, w0⟩ := DataW.trod_int Tryz.underlying3 i0
    obtain ⟨a1, e1, _, w1⟩ := DataW.trod_int Tryz.underlying3 i1
    obtain ⟨a2, e2, _, w2⟩ := DataW.trod_int Tryz.underlying5 i2
    obtain ⟨a3, e3, _, w3⟩ := DataW.trod_int Tryz.underlying5 i3
    obtain ⟨a4, e4, _, w4⟩ := DataW.trod_int Tryz.underlying3 i4
    obtain rfl : v0 = _ := one_of e0
    obtain rfl : v1 = _ := one_of e1
    obtain rfl : v2 = _ := one_of e2
    obtain rfl : v3 = _ := one_of e3
    obtain rfl : v4 = _ := one_of e4
    obtain ⟨xa, la, ca, rfl⟩ := slice_form Tryz.underlying35 j1
    obtain ⟨xo, lo, co, rfl⟩ := slice_form Tryz.underlying23 g1
    obtain ⟨ma, al, hal, dla, bal⟩ := dg_list j1
    obtain ⟨mo, ob, hob, slo, bob, _⟩ := obs_list ⟨n, g1⟩
    subst hal hob
    refine ⟨⟨⟨a0, a1, a2, a3, a4⟩, al, ob⟩, ⟨xa, ca, xo, co, fun j v hv => ?_, dla, slo⟩, bal, bob, ma, mo⟩
    have hj : j < 7 := by
      have := (List.getElem?_eq_some_iff.1 hv).1
      exact this
    have := hat j hj
    rw [add_none] at this
    rw [this]
    exact hv
theorem fl_list {fuel : Nat} {x : Option Addr} {len cap : Nat} {y : DataW H × List MemPlace} (h : DataW.trod enc Tryz.prog w base spare held fuel 22 [.slice x len cap] = some y) :
    len ≤ 9223372036854775807 ∧ ∃ l : List Fl, l.length = len ∧ FlA w x l ∧ ∀ f ∈ l, (∀ d ∈ f.al, dgB d) ∧ OBs f.ob ∧ f.al.length ≤ 9223372036854775807 ∧ f.ob.length ≤ 9223372036854775807 := by
  obtain ⟨hm, l, hl, hx⟩ := open_rows 7 (by kernel_rfl) (by omega) Tryz.underlying22 (flP w) (fun b off m cs z h1 h2 => fl_elem h1 h2) h
  refine ⟨hm, l, hl, ?_, fun d hd => ?_⟩
  · rcases hx with h | ⟨b, off, h1, h2, h3⟩
    · exact Or.inl h
    · exact Or.inr ⟨b, off, h1, h2, fun i hi => (h3 i hi).1⟩
  · obtain ⟨i, hi, rfl⟩ := List.getElem_of_mem hd
    rcases hx with h | ⟨b, off, h1, h2, h3⟩
    · subst h; exact absurd hi (Nat.not_lt_zero _)
    · exact (h3 i hi).2
/-- A catalogue by value. -/
theorem cat_arg {n0 n1 n2 : Nat} {v0 v1 v2 : Value} {y0 y1 y2 : DataW H × List MemPlace} (g0 : DataW.trod enc Tryz.prog w base spare held n0 22 [v0] = some y0) (g1 : DataW.trod enc Tryz.prog w base spare held n1 23 [v1] = some y1) (g2 : DataW.trod enc Tryz.prog w base spare held n2 24 [v2] = some y2) :
    ∃ (c : Ct) (x1 x2 x3 : Option Addr) (c1 c2 c3 : Nat), #[v0, v1, v2] = (ctC c x1 c1 x2 c2 x3 c3).toArray ∧ CtA w c x1 c1 x2 c2 x3 c3 ∧ CtB c ∧ CtL c := by
  obtain ⟨x1, l1, c1, rfl⟩ := slice_form Tryz.underlying22 g0
  obtain ⟨x2, l2, c2, rfl⟩ := slice_form Tryz.underlying23 g1
  obtain ⟨x3, l3, c3, rfl⟩ := slice_form Tryz.underlying24 g2
  obtain ⟨m1, fl, h1, a1, b1⟩ := fl_list g0
  obtain ⟨m2, rest, h2, a2, b2, _⟩ := obs_list ⟨n1, g1⟩
  obtain ⟨m3, notes, h3, a3, b3⟩ := tx_list g2
  subst h1 h2 h3
  exact ⟨⟨fl, rest, notes⟩, x1, x2, x3, c1, c2, c3, rfl, ⟨a1, a2, a3⟩, ⟨fun f hf => (b1 f hf).1, fun f hf => (b1 f hf).2.1, b2⟩, ⟨m1, fun f hf => (b1 f hf).2.2.1, fun f hf => (b1 f hf).2.2.2, m2, m3, b3⟩⟩
end
end Kw
end Go.Proofs.YtafeigpmldgifaaGreatDoor
/-
  What the row of the law ArchivePrints says of memory: the tables, and the error of strconv.
-/
namespace Go.Proofs.YtafeigpmldgifaaGreatDoor
namespace Kw
open Go.RowKit Lw Go.Proofs.YtafeigpmldgifaaGreatDoor.Ow

theorem laidMet_tail {P : Program} {W : World} {x : String × DataW Unit} {rest : List (String × DataW Unit)} (h : laidMet P (x :: rest) W) : laidMet P rest W := by
  obtain ⟨n, d⟩ := x
  obtain ⟨ps, ⟨g', t', cs, fuel, p, q, hg', ht', hvar, hd, hr, hp⟩, hn, ha⟩ := h
  subst hp
  exact ⟨q, hr, (List.nodup_append.1 hn).2.1, fun b off hm => ha b off (List.mem_append_right _ hm)⟩
set_option maxRecDepth 100000 in
theorem err_one {enc : TypeId × Value → Unit} {W : World} {base : Nat} {sp : Nat → Bool} {fuel : Nat} {t : TypeId} {tys : Array (String × TypeId)} {v : Value} {y : DataW Unit × List MemPlace} (ht : Tryz.prog.underlying t = some (.interface tys)) (h : DataW.trod enc Tryz.prog W base sp false fuel t [v] = some y) : v = .nilIface ∨ ∃ te pe, v = .iface te pe := by
  cases fuel with
  | zero => simp [DataW.trod] at h
  | succ n =>
    cases v with
    | nilIface => exact Or.inl rfl
    | iface te pe => exact Or.inr ⟨te, pe, rfl⟩
    | _ => simp [DataW.trod, ht] at h
set_option maxRecDepth 100000 in
theorem err_cell {enc : TypeId × Value → Unit} {W : World} {base : Nat} {sp : Nat → Bool} {fuel : Nat} {t : TypeId} {tys : Array (String × TypeId)} {cs : List Value} {y : DataW Unit × List MemPlace} (ht : Tryz.prog.underlying t = some (.interface tys)) (h : DataW.trod enc Tryz.prog W base sp false fuel t cs = some y) :
    ∃ v, cs = [v] ∧ (v = .nilIface ∨ ∃ te pe, v = .iface te pe) := by
  cases fuel with
  | zero => simp [DataW.trod] at h
  | succ n =>
    match cs, h with
    | [], h => simp [DataW.trod, ht] at h
    | [v], h =>
      exact ⟨v, rfl, err_one ht h⟩
    | _ :: _ :: _, h => simp [DataW.trod, ht] at h
theorem es_of {W : World} (hL : laidMet Tryz.prog Rows.archivePrintsRow.laid W) : ES W := by
  obtain ⟨ps, ⟨g', t', cs, fuel, p, q, hg', ht', hvar, hd, _, _⟩, _⟩ := laidMet_tail (laidMet_tail (laidMet_tail (laidMet_tail hL)))
  have hg : Tryz.prog.globalNamed "strconv.ErrSyntax" = some 5 := by kernel_rfl
  have hty : (Tryz.prog.globals[(5 : Nat)]?).map (·.type) = some 47 := by kernel_rfl
  obtain rfl := Option.some.inj (hg.symm.trans hg')
  obtain rfl := Option.some.inj (hty.symm.trans ht')
  obtain ⟨tys, hu⟩ : ∃ tys, Tryz.prog.underlying 47 = some (.interface tys) := ⟨_, Tryz.underlying47⟩
  obtain ⟨v, hc, hv⟩ := err_cell hu hd
  have c := World.var?_cell hg hvar 0
  have e0 : cs[0]? = some v := by
    rw [← Array.getElem?_toList, hc]; rfl
  rw [e0] at c
  refine ⟨?_, v, c, hv⟩
  rcases Nat.lt_or_ge 5 W.heap.size with h | h
  · exact h
  · exfalso
    unfold World.cell? at c
    rw [Array.getElem?_eq_none h] at c
    cases c
theorem tab_of {W : World} (hL : laidMet Tryz.prog Rows.archivePrintsRow.laid W) : Gt.Tab W :=
  Lib.tabIs_of_head (t := 128) (e := 98) (n := 20) Gt.gPow (by kernel_rfl) (by kernel_rfl) (by kernel_rfl) (by kernel_rfl) (by kernel_rfl) (laidMet_tail (laidMet_tail hL))
theorem tb_of {W : World} (hL : laidMet Tryz.prog Rows.archivePrintsRow.laid W) : Dw.Tb W :=
  ⟨Lib.tabIs_of_head (rest := []) (t := 81) (e := 21) (n := 25) Dw.gOrd (by kernel_rfl) (by kernel_rfl) (by kernel_rfl) (by kernel_rfl) (by kernel_rfl) (laidMet_tail (laidMet_tail (laidMet_tail (laidMet_tail (laidMet_tail hL))))),
   Lib.tabIs_of_head (t := 128) (e := 98) (n := 20) Dw.gPow (by kernel_rfl) (by kernel_rfl) (by kernel_rfl) (by kernel_rfl) (by kernel_rfl) (laidMet_tail (laidMet_tail hL))⟩
end Kw
end Go.Proofs.YtafeigpmldgifaaGreatDoor
