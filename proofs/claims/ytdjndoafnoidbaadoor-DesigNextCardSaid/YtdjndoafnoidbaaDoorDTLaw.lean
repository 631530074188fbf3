/-
  The walk of DesigTexts.
-/
import Derived.Test.YtdjndoafnoidbaaDoorDRUnp
namespace Go.Proofs.YtdjndoafnoidbaaDoor
namespace Dw
open Go.RowKit Dp Lw

/-- The text that Text returns, valid or not. -/
def txtS (n y h s c : Int) : ByteArray := if okD n y h s c then ⟨(textG ⟨n, y, h, s, c⟩).toArray⟩ else ⟨#[]⟩
def pakS (n y h s c : Int) : ByteArray := if okD n y h s c then ⟨(packG ⟨n, y, h, s, c⟩).toArray⟩ else ⟨#[]⟩
def TextAll (n y h s c : Int) (w : World) (e : Ending) (w' : World) : Prop := e = .returned (.tuple #[.string (txtS n y h s c), .int .i64 (errC n y h s c)]) ∧ Below w.heap.size w w'
def PackAll (n y h s c : Int) (w : World) (e : Ending) (w' : World) : Prop := e = .returned (.tuple #[.string (pakS n y h s c), .int .i64 (errC n y h s c)]) ∧ Below w.heap.size w w'
theorem all_ok {n y h s c : Int} {w : World} (g : okD n y h s c) {e : Ending} {w' : World} (x : TextOk n y h s c w e w') : TextAll n y h s c w e w' := by
  unfold TextAll txtS
  rw [if_pos g, errC_ok g]
  exact x
theorem all_no {n y h s c : Int} {w : World} (g : ¬ okD n y h s c) {e : Ending} {w' : World} (x : TextNo w e w') : TextAll n y h s c w e w' := by
  unfold TextAll txtS
  rw [if_neg g, errC_no g]
  exact x
theorem pall_ok {n y h s c : Int} {w : World} (g : okD n y h s c) {e : Ending} {w' : World} (x : PackOk n y h s c w e w') : PackAll n y h s c w e w' := by
  unfold PackAll pakS
  rw [if_pos g, errC_ok g]
  exact x
theorem pall_no {n y h s c : Int} {w : World} (g : ¬ okD n y h s c) {e : Ending} {w' : World} (x : TextNo w e w') : PackAll n y h s c w e w' := by
  unfold PackAll pakS
  rw [if_neg g, errC_no g]
  exact x
theorem Text_all (n y h s c : Int) (w : World) (hT : Tb w) (h0 : 0 ≤ h) (h1 : h < 256) (s0 : 0 ≤ s) (s1 : s < 256) : Calls Tryd.prog 16 #[desigV n y h s c] w (TextAll n y h s c w) := by
  by_cases g : okD n y h s c
  · exact (Text_ok n y h s c w hT h0 h1 s0 s1 g).mono fun _ _ x => all_ok g x
  · exact (text_no n y h s c w hT h0 h1 s0 s1 g).mono fun _ _ x => all_no g x
theorem rText_all (n y h s c : Int) (w : World) (h0 : 0 ≤ h) (h1 : h < 256) (s0 : 0 ≤ s) (s1 : s < 256) : Calls Tryd.prog 17 #[desigV n y h s c] w (TextAll n y h s c w) := by
  by_cases g : okD n y h s c
  · exact (rText_ok n y h s c w h0 h1 s0 s1 g).mono fun _ _ x => all_ok g x
  · exact (rText_no n y h s c w g).mono fun _ _ x => all_no g x
theorem Pack_all (n y h s c : Int) (w : World) (hT : Tb w) (h0 : 0 ≤ h) (h1 : h < 256) (s0 : 0 ≤ s) (s1 : s < 256) : Calls Tryd.prog 18 #[desigV n y h s c] w (PackAll n y h s c w) := by
  by_cases g : okD n y h s c
  · exact (Pack_ok n y h s c w hT h0 h1 s0 s1 g).mono fun _ _ x => pall_ok g x
  · exact (pack_no n y h s c w hT h0 h1 s0 s1 g).mono fun _ _ x => pall_no g x
theorem rPack_all (n y h s c : Int) (w : World) (h0 : 0 ≤ h) (h1 : h < 256) (s0 : 0 ≤ s) (s1 : s < 256) : Calls Tryd.prog 19 #[desigV n y h s c] w (PackAll n y h s c w) := by
  by_cases g : okD n y h s c
  · exact (rPack_ok n y h s c w h0 h1 s0 s1 g).mono fun _ _ x => pall_ok g x
  · exact (rPack_no n y h s c w g).mono fun _ _ x => pall_no g x
/-- A box that holds a designation. -/
structure Bx (b : Nat) (cs : List Value) (w : World) : Prop where
  row : w.rangeAt b 0 cs
  lt : b < w.heap.size
theorem Bx.call {b : Nat} {cs : List Value} {a c : World} (h : Bx b cs a) (hb : Below a.heap.size a c) : Bx b cs c := ⟨rangeAt_below h.row hb h.lt, Nat.lt_of_lt_of_le h.lt hb.size⟩
theorem Bx.new (w : World) (cs : List Value) (t : TypeId) : Bx w.heap.size cs (w.alloc (.cells cs.toArray t)) := ⟨rangeAt_new w cs t, by simp⟩
theorem Bx.alloc {b : Nat} {cs : List Value} {a : World} (h : Bx b cs a) (o : Obj) : Bx b cs (a.alloc o) := h.call ((Below.refl _ a).alloc (Nat.le_refl _) o)
/-- The state ahead of the law's last line. -/
structure LS (w : World) (c0 c1 c2 c3 c4 : List Value) (b1 b2 b3 b4 : Nat) (w' : World) : Prop where
  x0 : Bx w.heap.size c0 w'
  x1 : Bx b1 c1 w'
  x2 : Bx b2 c2 w'
  x3 : Bx b3 c3 w'
  x4 : Bx b4 c4 w'
  tb : Tb w'
  below : Below w.heap.size w w'
theorem LS.call {w : World} {c0 c1 c2 c3 c4 : List Value} {b1 b2 b3 b4 : Nat} {a b : World} (h : LS w c0 c1 c2 c3 c4 b1 b2 b3 b4 a) (hb : Below a.heap.size a b) : LS w c0 c1 c2 c3 c4 b1 b2 b3 b4 b :=
  ⟨h.x0.call hb, h.x1.call hb, h.x2.call hb, h.x3.call hb, h.x4.call hb, h.tb.below hb, below_then h.below hb⟩
set_option maxRecDepth 100000 in
set_option maxHeartbeats 8000000 in
theorem texts_any (n y u s c : Int) (p q : ByteArray) (w : World) (hT : Tb w) (h0 : 0 ≤ u) (h1 : u < 256) (s0 : 0 ≤ s) (s1 : s < 256) (hp : p.size ≤ 40) (hq : q.size ≤ 40) :
    Calls Tryd.prog 4 #[desigV n y u s c, .string p, .string q] w fun e w' => e = .returned (.bool true) ∧ Below w.heap.size w w' := by
  have P1 : ¬ (40 : Int) < (p.size : Int) := by omega
  have P2 : ¬ (40 : Int) < (q.size : Int) := by omega
  have x0 := Bx.new w (desigC n y u s c) 23
  have ts := TS.box hT (.cells (desigC n y u s c).toArray 23)
  have C1 := fun w' ht => Text_all n y u s c w' ht h0 h1 s0 s1
  have C2 := fun w' => rText_all n y u s c w' h0 h1 s0 s1
  have C3 := fun w' ht => Pack_all n y u s c w' ht h0 h1 s0 s1
  have C4 := fun w' => rPack_all n y u s c w' h0 h1 s0 s1
  have C5 := Lib.hid (fun w' ht => check_any n y u s c w' ht h0 h1 s0 s1)
  have C6 := Lib.hid (fun w' => rcheck_any n y u s c w')
  unfold TextAll at C1 C2
  unfold PackAll at C3 C4
  generalize txtS n y u s c = T at *
  generalize pakS n y u s c = K at *
  have C1 := Lib.hid C1
  have C2 := Lib.hid C2
  have C3 := Lib.hid C3
  have C4 := Lib.hid C4
  obtain ⟨E, eE⟩ : ∃ E, errC n y u s c = E := ⟨_, rfl⟩
  simp only [eE] at C1 C2 C3 C4 C5 C6
  clear eE hT h0 h1 s0 s1
  go_enter Tryd.func4, Tryd.ntmps4
  go_wp2_with (refine wpList_load_mid rfl _ (.tmp 3) rfl w.heap.size 0 rfl (desigC n y u s c) _ x0.row Tryd.underlying23 rfl info5d ?_)
  refine (C1.out _ ts.tab).mono ?_
  rintro e w1 ⟨rfl, hb⟩
  replace x0 := x0.call hb
  replace ts := ts.call hb
  clear hb
  go_wp2_with (refine wpList_load_mid rfl _ (.tmp 3) rfl w.heap.size 0 rfl (desigC n y u s c) _ x0.row Tryd.underlying23 rfl info5d ?_)
  refine (C2.out _).mono ?_
  rintro e w2 ⟨rfl, hb⟩
  replace x0 := x0.call hb
  replace ts := ts.call hb
  clear hb
  go_wp2_with (refine wpList_load_mid rfl _ (.tmp 3) rfl w.heap.size 0 rfl (desigC n y u s c) _ x0.row Tryd.underlying23 rfl info5d ?_)
  refine (C3.out _ ts.tab).mono ?_
  rintro e w3 ⟨rfl, hb⟩
  replace x0 := x0.call hb
  replace ts := ts.call hb
  clear hb
  go_wp2_with (refine wpList_load_mid rfl _ (.tmp 3) rfl w.heap.size 0 rfl (desigC n y u s c) _ x0.row Tryd.underlying23 rfl info5d ?_)
  refine (C4.out _).mono ?_
  rintro e w4 ⟨rfl, hb⟩
  replace x0 := x0.call hb
  replace ts := ts.call hb
  clear hb
  go_wp2_with fail
  refine (parse_any p _ ts.tab hp).mono ?_
  rintro e w5 ⟨⟨n1, y1, u1, z1, c1⟩, k1, rfl, i1, hb⟩
  replace x0 := (x0.call hb).alloc (.cells (desigC n1 y1 u1 z1 c1).toArray 23)
  replace ts := (ts.call hb).alloc (.cells (desigC n1 y1 u1 z1 c1).toArray 23)
  have x1 := Bx.new w5 (desigC n1 y1 u1 z1 c1) 23
  clear hb
  have I1 := Lib.hid i1
  clear i1
  go_wp2_with (refine wpList_store_new rfl _ (.tmp 15) (.tmp 54) rfl _ _ rfl rfl info5d rfl ?_ ?_; simp [Value.oneCell'])
  refine (rparse_any p _ hp).mono ?_
  rintro e w6 ⟨⟨n2, y2, u2, z2, c2⟩, k2, rfl, i2, hb⟩
  obtain ⟨ed, rfl⟩ := I1.out.uniq i2
  obtain ⟨rfl, rfl, rfl, rfl, rfl⟩ := Dg.mk.inj ed
  replace x0 := (x0.call hb).alloc (.cells (desigC n1 y1 u1 z1 c1).toArray 23)
  replace x1 := (x1.call hb).alloc (.cells (desigC n1 y1 u1 z1 c1).toArray 23)
  replace ts := (ts.call hb).alloc (.cells (desigC n1 y1 u1 z1 c1).toArray 23)
  have x2 := Bx.new w6 (desigC n1 y1 u1 z1 c1) 23
  clear hb i2 ed I1
  go_wp2_with (refine wpList_store_new rfl _ (.tmp 17) (.tmp 59) rfl _ _ rfl rfl info5d rfl ?_ ?_; simp [Value.oneCell'])
  refine (unpack_any q _ ts.tab hq).mono ?_
  rintro e w7 ⟨⟨n3, y3, u3, z3, c3⟩, k3, rfl, i3, hb⟩
  replace x0 := (x0.call hb).alloc (.cells (desigC n3 y3 u3 z3 c3).toArray 23)
  replace x1 := (x1.call hb).alloc (.cells (desigC n3 y3 u3 z3 c3).toArray 23)
  replace x2 := (x2.call hb).alloc (.cells (desigC n3 y3 u3 z3 c3).toArray 23)
  replace ts := (ts.call hb).alloc (.cells (desigC n3 y3 u3 z3 c3).toArray 23)
  have x3 := Bx.new w7 (desigC n3 y3 u3 z3 c3) 23
  have I3 := Lib.hid i3
  clear hb i3
  go_wp2_with (refine wpList_store_new rfl _ (.tmp 19) (.tmp 64) rfl _ _ rfl rfl info5d rfl ?_ ?_; simp [Value.oneCell'])
  refine (runpack_any q _ hq).mono ?_
  rintro e w8 ⟨⟨n4, y4, u4, z4, c4⟩, k4, rfl, i4, hb⟩
  obtain ⟨ed, rfl⟩ := I3.out.uniq i4
  obtain ⟨rfl, rfl, rfl, rfl, rfl⟩ := Dg.mk.inj ed
  replace x0 := (x0.call hb).alloc (.cells (desigC n3 y3 u3 z3 c3).toArray 23)
  replace x1 := (x1.call hb).alloc (.cells (desigC n3 y3 u3 z3 c3).toArray 23)
  replace x2 := (x2.call hb).alloc (.cells (desigC n3 y3 u3 z3 c3).toArray 23)
  replace x3 := (x3.call hb).alloc (.cells (desigC n3 y3 u3 z3 c3).toArray 23)
  replace ts := (ts.call hb).alloc (.cells (desigC n3 y3 u3 z3 c3).toArray 23)
  have x4 := Bx.new w8 (desigC n3 y3 u3 z3 c3) 23
  clear hb i4 ed I3
  go_wp2_with (refine wpList_store_new rfl _ (.tmp 21) (.tmp 69) rfl _ _ rfl rfl info5d rfl ?_ ?_; simp [Value.oneCell'])
  have HS : LS w (desigC n y u s c) (desigC n1 y1 u1 z1 c1) (desigC n1 y1 u1 z1 c1) (desigC n3 y3 u3 z3 c3) (desigC n3 y3 u3 z3 c3) w5.heap.size w6.heap.size w7.heap.size w8.heap.size _ := ⟨x0, x1, x2, x3, x4, ts.tab, ts.below⟩
  clear x0 x1 x2 x3 x4 ts C1 C2 C3 C4
  refine wp_region_held_drew (S := fun w' => LS w (desigC n y u s c) (desigC n1 y1 u1 z1 c1) (desigC n1 y1 u1 z1 c1) (desigC n3 y3 u3 z3 c3) (desigC n3 y3 u3 z3 c3) w5.heap.size w6.heap.size w7.heap.size w8.heap.size w') (by kernel_rfl) (HS.call ((Below.refl _ _).drew)) (fun hHeld => ?_)
  clear HS
  refine wpAnyH_take (i := 0) (oi := ?oi0) (v := ?v0) ?hi0 (by kernel_rfl) (by kernel_rfl) (by kernel_rfl) ?hq0 ?hy0 hHeld ?rest0
  case hi0 => ((try simp only [List.getElem?_toArray, List.getElem?_cons_succ, List.getElem?_cons_zero]); (try rfl))
  case hq0 => exact fun _ _ _ h => h
  case hy0 =>
    refine' yieldsIf_load_mid ?_ 23 (.tmp 3) ?_ w.heap.size 0 ?_ (desigC n y u s c) _ ?_ Tryd.underlying23 ?_ info5d
    · rfl
    · rfl
    · rfl
    · exact fun _ h => (LS.x0 h).row
    · rfl
  try simp only [Act.put, List.setIfInBounds_toArray, List.set_cons_zero, List.set_cons_succ]
  refine wpAnyH_take (i := 2) (oi := ?oi2) (v := ?v2) ?hi2 (by kernel_rfl) (by kernel_rfl) (by kernel_rfl) ?hq2 ?hy2 hHeld ?rest2
  case hi2 => ((try simp only [List.getElem?_toArray, List.getElem?_cons_succ, List.getElem?_cons_zero]); (try rfl))
  case hq2 => exact fun _ _ _ h => h
  case hy2 =>
    refine' yieldsIf_load_mid ?_ 23 (.tmp 3) ?_ w.heap.size 0 ?_ (desigC n y u s c) _ ?_ Tryd.underlying23 ?_ info5d
    · rfl
    · rfl
    · rfl
    · exact fun _ h => (LS.x0 h).row
    · rfl
  try simp only [Act.put, List.setIfInBounds_toArray, List.set_cons_zero, List.set_cons_succ]
  refine wpAnyH_ready (rs := [1]) (by kernel_rfl) (by simp) ?_
  refine AllReadyH.cons rfl (fun K' hK => ?_) AllReadyH.nil
  have hT := Lib.hid hHeld.tb.ord
  have H1 := Lib.hid hHeld
  clear hHeld
  go_simp
  refine (C5.out _ hT.out).mono ?_
  rintro e w9 ⟨rfl, hb⟩
  refine hK.out _ _ (H1.out.call hb) (fun hHeld => ?_)
  clear hK H1 hb hT C5
  try simp only [Act.put, List.setIfInBounds_toArray, List.set_cons_zero, List.set_cons_succ]
  refine wpAnyH_ready (rs := [3]) (by kernel_rfl) (by simp) ?_
  refine AllReadyH.cons rfl (fun K' hK => ?_) AllReadyH.nil
  have H1 := Lib.hid hHeld
  clear hHeld
  go_simp
  refine (C6.out _).mono ?_
  rintro e w10 ⟨rfl, hb⟩
  refine hK.out _ _ (H1.out.call hb) (fun hHeld => ?_)
  clear hK H1 hb C6
  try simp only [Act.put, List.setIfInBounds_toArray, List.set_cons_zero, List.set_cons_succ]
  refine wpAnyH_take (i := 4) (oi := ?oi4) (v := ?v4) ?hi4 (by kernel_rfl) (by kernel_rfl) (by kernel_rfl) ?hq4 ?hy4 hHeld ?rest4
  case hi4 => ((try simp only [List.getElem?_toArray, List.getElem?_cons_succ, List.getElem?_cons_zero]); (try rfl))
  case hq4 => exact fun _ _ _ h => h
  case hy4 => exact Or.inl ⟨by rfl, by intro w hSw; clear hSw; go_simp; try with_reducible rfl⟩
  try simp only [Act.put, List.setIfInBounds_toArray, List.set_cons_zero, List.set_cons_succ]
  refine wpAnyH_take (i := 5) (oi := ?oi5) (v := ?v5) ?hi5 (by kernel_rfl) (by kernel_rfl) (by kernel_rfl) ?hq5 ?hy5 hHeld ?rest5
  case hi5 => ((try simp only [List.getElem?_toArray, List.getElem?_cons_succ, List.getElem?_cons_zero]); (try rfl))
  case hq5 => exact fun _ _ _ h => h
  case hy5 => exact Or.inl ⟨by rfl, by intro w hSw; clear hSw; go_simp; try with_reducible rfl⟩
  try simp only [Act.put, List.setIfInBounds_toArray, List.set_cons_zero, List.set_cons_succ]
  refine wpAnyH_take (i := 6) (oi := ?oi6) (v := ?v6) ?hi6 (by kernel_rfl) (by kernel_rfl) (by kernel_rfl) ?hq6 ?hy6 hHeld ?rest6
  case hi6 => ((try simp only [List.getElem?_toArray, List.getElem?_cons_succ, List.getElem?_cons_zero]); (try rfl))
  case hq6 => exact fun _ _ _ h => h
  case hy6 => exact Or.inl ⟨by rfl, by intro w hSw; clear hSw; go_simp; try with_reducible rfl⟩
  try simp only [Act.put, List.setIfInBounds_toArray, List.set_cons_zero, List.set_cons_succ]
  refine wpAnyH_take (i := 7) (oi := ?oi7) (v := ?v7) ?hi7 (by kernel_rfl) (by kernel_rfl) (by kernel_rfl) ?hq7 ?hy7 hHeld ?rest7
  case hi7 => ((try simp only [List.getElem?_toArray, List.getElem?_cons_succ, List.getElem?_cons_zero]); (try rfl))
  case hq7 => exact fun _ _ _ h => h
  case hy7 => exact Or.inl ⟨by rfl, by intro w hSw; clear hSw; go_simp; try with_reducible rfl⟩
  try simp only [Act.put, List.setIfInBounds_toArray, List.set_cons_zero, List.set_cons_succ]
  refine wpAnyH_take (i := 8) (oi := ?oi8) (v := ?v8) ?hi8 (by kernel_rfl) (by kernel_rfl) (by kernel_rfl) ?hq8 ?hy8 hHeld ?rest8
  case hi8 => ((try simp only [List.getElem?_toArray, List.getElem?_cons_succ, List.getElem?_cons_zero]); (try rfl))
  case hq8 => exact fun _ _ _ h => h
  case hy8 => exact Or.inl ⟨by rfl, by intro w hSw; clear hSw; go_simp; try with_reducible rfl⟩
  try simp only [Act.put, List.setIfInBounds_toArray, List.set_cons_zero, List.set_cons_succ]
  refine wpAnyH_take (i := 9) (oi := ?oi9) (v := ?v9) ?hi9 (by kernel_rfl) (by kernel_rfl) (by kernel_rfl) ?hq9 ?hy9 hHeld ?rest9
  case hi9 => ((try simp only [List.getElem?_toArray, List.getElem?_cons_succ, List.getElem?_cons_zero]); (try rfl))
  case hq9 => exact fun _ _ _ h => h
  case hy9 => exact Or.inl ⟨by rfl, by intro w hSw; clear hSw; go_simp; try with_reducible rfl⟩
  try simp only [Act.put, List.setIfInBounds_toArray, List.set_cons_zero, List.set_cons_succ]
  refine wpAnyH_take (i := 10) (oi := ?oi10) (v := ?v10) ?hi10 (by kernel_rfl) (by kernel_rfl) (by kernel_rfl) ?hq10 ?hy10 hHeld ?rest10
  case hi10 => ((try simp only [List.getElem?_toArray, List.getElem?_cons_succ, List.getElem?_cons_zero]); (try rfl))
  case hq10 => exact fun _ _ _ h => h
  case hy10 => exact Or.inl ⟨by rfl, by intro w hSw; clear hSw; go_simp; try with_reducible rfl⟩
  try simp only [Act.put, List.setIfInBounds_toArray, List.set_cons_zero, List.set_cons_succ]
  refine wpAnyH_take (i := 11) (oi := ?oi11) (v := ?v11) ?hi11 (by kernel_rfl) (by kernel_rfl) (by kernel_rfl) ?hq11 ?hy11 hHeld ?rest11
  case hi11 => ((try simp only [List.getElem?_toArray, List.getElem?_cons_succ, List.getElem?_cons_zero]); (try rfl))
  case hq11 => exact fun _ _ _ h => h
  case hy11 => exact Or.inl ⟨by rfl, by intro w hSw; clear hSw; go_simp; try with_reducible rfl⟩
  try simp only [Act.put, List.setIfInBounds_toArray, List.set_cons_zero, List.set_cons_succ]
  refine wpAnyH_take (i := 12) (oi := ?oi12) (v := ?v12) ?hi12 (by kernel_rfl) (by kernel_rfl) (by kernel_rfl) ?hq12 ?hy12 hHeld ?rest12
  case hi12 => ((try simp only [List.getElem?_toArray, List.getElem?_cons_succ, List.getElem?_cons_zero]); (try rfl))
  case hq12 => exact fun _ _ _ h => h
  case hy12 => exact Or.inl ⟨by rfl, by intro w hSw; clear hSw; go_simp; try with_reducible rfl⟩
  try simp only [Act.put, List.setIfInBounds_toArray, List.set_cons_zero, List.set_cons_succ]
  refine wpAnyH_take (i := 13) (oi := ?oi13) (v := ?v13) ?hi13 (by kernel_rfl) (by kernel_rfl) (by kernel_rfl) ?hq13 ?hy13 hHeld ?rest13
  case hi13 => ((try simp only [List.getElem?_toArray, List.getElem?_cons_succ, List.getElem?_cons_zero]); (try rfl))
  case hq13 => exact fun _ _ _ h => h
  case hy13 => exact Or.inl ⟨by rfl, by intro w hSw; clear hSw; go_simp; try with_reducible rfl⟩
  try simp only [Act.put, List.setIfInBounds_toArray, List.set_cons_zero, List.set_cons_succ]
  refine wpAnyH_take (i := 14) (oi := ?oi14) (v := ?v14) ?hi14 (by kernel_rfl) (by kernel_rfl) (by kernel_rfl) ?hq14 ?hy14 hHeld ?rest14
  case hi14 => ((try simp only [List.getElem?_toArray, List.getElem?_cons_succ, List.getElem?_cons_zero]); (try rfl))
  case hq14 => exact fun _ _ _ h => h
  case hy14 => exact Or.inl ⟨by rfl, by intro w hSw; clear hSw; go_simp; try with_reducible rfl⟩
  try simp only [Act.put, List.setIfInBounds_toArray, List.set_cons_zero, List.set_cons_succ]
  refine wpAnyH_take (i := 15) (oi := ?oi15) (v := ?v15) ?hi15 (by kernel_rfl) (by kernel_rfl) (by kernel_rfl) ?hq15 ?hy15 hHeld ?rest15
  case hi15 => ((try simp only [List.getElem?_toArray, List.getElem?_cons_succ, List.getElem?_cons_zero]); (try rfl))
  case hq15 => exact fun _ _ _ h => h
  case hy15 => exact Or.inl ⟨by rfl, by intro w hSw; clear hSw; go_simp; try with_reducible rfl⟩
  try simp only [Act.put, List.setIfInBounds_toArray, List.set_cons_zero, List.set_cons_succ]
  refine wpAnyH_take (i := 16) (oi := ?oi16) (v := ?v16) ?hi16 (by kernel_rfl) (by kernel_rfl) (by kernel_rfl) ?hq16 ?hy16 hHeld ?rest16
  case hi16 => ((try simp only [List.getElem?_toArray, List.getElem?_cons_succ, List.getElem?_cons_zero]); (try rfl))
  case hq16 => exact fun _ _ _ h => h
  case hy16 => exact Or.inl ⟨by rfl, by intro w hSw; clear hSw; go_simp; try with_reducible rfl⟩
  try simp only [Act.put, List.setIfInBounds_toArray, List.set_cons_zero, List.set_cons_succ]
  refine wpAnyH_take (i := 17) (oi := ?oi17) (v := ?v17) ?hi17 (by kernel_rfl) (by kernel_rfl) (by kernel_rfl) ?hq17 ?hy17 hHeld ?rest17
  case hi17 => ((try simp only [List.getElem?_toArray, List.getElem?_cons_succ, List.getElem?_cons_zero]); (try rfl))
  case hq17 => exact fun _ _ _ h => h
  case hy17 => exact Or.inl ⟨by rfl, by intro w hSw; clear hSw; go_simp; try with_reducible rfl⟩
  try simp only [Act.put, List.setIfInBounds_toArray, List.set_cons_zero, List.set_cons_succ]
  refine wpAnyH_take (i := 18) (oi := ?oi18) (v := ?v18) ?hi18 (by kernel_rfl) (by kernel_rfl) (by kernel_rfl) ?hq18 ?hy18 hHeld ?rest18
  case hi18 => ((try simp only [List.getElem?_toArray, List.getElem?_cons_succ, List.getElem?_cons_zero]); (try rfl))
  case hq18 => exact fun _ _ _ h => h
  case hy18 => exact Or.inl ⟨by rfl, by intro w hSw; clear hSw; go_simp; try with_reducible rfl⟩
  try simp only [Act.put, List.setIfInBounds_toArray, List.set_cons_zero, List.set_cons_succ]
  refine wpAnyH_take (i := 19) (oi := ?oi19) (v := ?v19) ?hi19 (by kernel_rfl) (by kernel_rfl) (by kernel_rfl) ?hq19 ?hy19 hHeld ?rest19
  case hi19 => ((try simp only [List.getElem?_toArray, List.getElem?_cons_succ, List.getElem?_cons_zero]); (try rfl))
  case hq19 => exact fun _ _ _ h => h
  case hy19 => exact Or.inl ⟨by rfl, by intro w hSw; clear hSw; go_simp; try with_reducible rfl⟩
  try simp only [Act.put, List.setIfInBounds_toArray, List.set_cons_zero, List.set_cons_succ]
  refine wpAnyH_take (i := 20) (oi := ?oi20) (v := ?v20) ?hi20 (by kernel_rfl) (by kernel_rfl) (by kernel_rfl) ?hq20 ?hy20 hHeld ?rest20
  case hi20 => ((try simp only [List.getElem?_toArray, List.getElem?_cons_succ, List.getElem?_cons_zero]); (try rfl))
  case hq20 => exact fun _ _ _ h => h
  case hy20 => exact Or.inl ⟨by rfl, by intro w hSw; clear hSw; go_simp; try with_reducible rfl⟩
  try simp only [Act.put, List.setIfInBounds_toArray, List.set_cons_zero, List.set_cons_succ]
  refine wpAnyH_take (i := 21) (oi := ?oi21) (v := ?v21) ?hi21 (by kernel_rfl) (by kernel_rfl) (by kernel_rfl) ?hq21 ?hy21 hHeld ?rest21
  case hi21 => ((try simp only [List.getElem?_toArray, List.getElem?_cons_succ, List.getElem?_cons_zero]); (try rfl))
  case hq21 => exact fun _ _ _ h => h
  case hy21 => exact Or.inl ⟨by rfl, by intro w hSw; clear hSw; go_simp; try with_reducible rfl⟩
  try simp only [Act.put, List.setIfInBounds_toArray, List.set_cons_zero, List.set_cons_succ]
  refine wpAnyH_take (i := 22) (oi := ?oi22) (v := ?v22) ?hi22 (by kernel_rfl) (by kernel_rfl) (by kernel_rfl) ?hq22 ?hy22 hHeld ?rest22
  case hi22 => ((try simp only [List.getElem?_toArray, List.getElem?_cons_succ, List.getElem?_cons_zero]); (try rfl))
  case hq22 => exact fun _ _ _ h => h
  case hy22 => exact Or.inl ⟨by rfl, by intro w hSw; clear hSw; go_simp; try with_reducible rfl⟩
  try simp only [Act.put, List.setIfInBounds_toArray, List.set_cons_zero, List.set_cons_succ]
  refine wpAnyH_take (i := 23) (oi := ?oi23) (v := ?v23) ?hi23 (by kernel_rfl) (by kernel_rfl) (by kernel_rfl) ?hq23 ?hy23 hHeld ?rest23
  case hi23 => ((try simp only [List.getElem?_toArray, List.getElem?_cons_succ, List.getElem?_cons_zero]); (try rfl))
  case hq23 => exact fun _ _ _ h => h
  case hy23 => exact Or.inl ⟨by rfl, by intro w hSw; clear hSw; go_simp; try with_reducible rfl⟩
  try simp only [Act.put, List.setIfInBounds_toArray, List.set_cons_zero, List.set_cons_succ]
  refine wpAnyH_take (i := 24) (oi := ?oi24) (v := ?v24) ?hi24 (by kernel_rfl) (by kernel_rfl) (by kernel_rfl) ?hq24 ?hy24 hHeld ?rest24
  case hi24 => ((try simp only [List.getElem?_toArray, List.getElem?_cons_succ, List.getElem?_cons_zero]); (try rfl))
  case hq24 => exact fun _ _ _ h => h
  case hy24 => exact Or.inl ⟨by rfl, by intro w hSw; clear hSw; go_simp; try with_reducible rfl⟩
  try simp only [Act.put, List.setIfInBounds_toArray, List.set_cons_zero, List.set_cons_succ]
  refine wpAnyH_take (i := 25) (oi := ?oi25) (v := ?v25) ?hi25 (by kernel_rfl) (by kernel_rfl) (by kernel_rfl) ?hq25 ?hy25 hHeld ?rest25
  case hi25 => ((try simp only [List.getElem?_toArray, List.getElem?_cons_succ, List.getElem?_cons_zero]); (try rfl))
  case hq25 => exact fun _ _ _ h => h
  case hy25 => exact Or.inl ⟨by rfl, by intro w hSw; clear hSw; go_simp; try with_reducible rfl⟩
  try simp only [Act.put, List.setIfInBounds_toArray, List.set_cons_zero, List.set_cons_succ]
  refine wpAnyH_take (i := 26) (oi := ?oi26) (v := ?v26) ?hi26 (by kernel_rfl) (by kernel_rfl) (by kernel_rfl) ?hq26 ?hy26 hHeld ?rest26
  case hi26 => ((try simp only [List.getElem?_toArray, List.getElem?_cons_succ, List.getElem?_cons_zero]); (try rfl))
  case hq26 => exact fun _ _ _ h => h
  case hy26 =>
    refine' yieldsIf_load_mid ?_ 23 (.tmp 15) ?_ w5.heap.size 0 ?_ (desigC n1 y1 u1 z1 c1) _ ?_ Tryd.underlying23 ?_ info5d
    · rfl
    · rfl
    · rfl
    · exact fun _ h => (LS.x1 h).row
    · rfl
  try simp only [Act.put, List.setIfInBounds_toArray, List.set_cons_zero, List.set_cons_succ]
  refine wpAnyH_take (i := 27) (oi := ?oi27) (v := ?v27) ?hi27 (by kernel_rfl) (by kernel_rfl) (by kernel_rfl) ?hq27 ?hy27 hHeld ?rest27
  case hi27 => ((try simp only [List.getElem?_toArray, List.getElem?_cons_succ, List.getElem?_cons_zero]); (try rfl))
  case hq27 => exact fun _ _ _ h => h
  case hy27 =>
    refine' yieldsIf_load_mid ?_ 23 (.tmp 17) ?_ w6.heap.size 0 ?_ (desigC n1 y1 u1 z1 c1) _ ?_ Tryd.underlying23 ?_ info5d
    · rfl
    · rfl
    · rfl
    · exact fun _ h => (LS.x2 h).row
    · rfl
  try simp only [Act.put, List.setIfInBounds_toArray, List.set_cons_zero, List.set_cons_succ]
  refine wpAnyH_take (i := 28) (oi := ?oi28) (v := ?v28) ?hi28 (by kernel_rfl) (by kernel_rfl) (by kernel_rfl) ?hq28 ?hy28 hHeld ?rest28
  case hi28 => ((try simp only [List.getElem?_toArray, List.getElem?_cons_succ, List.getElem?_cons_zero]); (try rfl))
  case hq28 => exact fun _ _ _ h => h
  case hy28 => exact Or.inl ⟨by rfl, by intro w hSw; clear hSw; go_simp; try with_reducible rfl⟩
  try simp only [Act.put, List.setIfInBounds_toArray, List.set_cons_zero, List.set_cons_succ]
  refine wpAnyH_take (i := 29) (oi := ?oi29) (v := ?v29) ?hi29 (by kernel_rfl) (by kernel_rfl) (by kernel_rfl) ?hq29 ?hy29 hHeld ?rest29
  case hi29 => ((try simp only [List.getElem?_toArray, List.getElem?_cons_succ, List.getElem?_cons_zero]); (try rfl))
  case hq29 => exact fun _ _ _ h => h
  case hy29 => exact Or.inl ⟨by rfl, by intro w hSw; clear hSw; go_simp; try with_reducible rfl⟩
  try simp only [Act.put, List.setIfInBounds_toArray, List.set_cons_zero, List.set_cons_succ]
  refine wpAnyH_take (i := 30) (oi := ?oi30) (v := ?v30) ?hi30 (by kernel_rfl) (by kernel_rfl) (by kernel_rfl) ?hq30 ?hy30 hHeld ?rest30
  case hi30 => ((try simp only [List.getElem?_toArray, List.getElem?_cons_succ, List.getElem?_cons_zero]); (try rfl))
  case hq30 => exact fun _ _ _ h => h
  case hy30 => exact Or.inl ⟨by rfl, by intro w hSw; clear hSw; go_simp; try with_reducible rfl⟩
  try simp only [Act.put, List.setIfInBounds_toArray, List.set_cons_zero, List.set_cons_succ]
  refine wpAnyH_take (i := 31) (oi := ?oi31) (v := ?v31) ?hi31 (by kernel_rfl) (by kernel_rfl) (by kernel_rfl) ?hq31 ?hy31 hHeld ?rest31
  case hi31 => ((try simp only [List.getElem?_toArray, List.getElem?_cons_succ, List.getElem?_cons_zero]); (try rfl))
  case hq31 => exact fun _ _ _ h => h
  case hy31 => exact Or.inl ⟨by rfl, by intro w hSw; clear hSw; go_simp; try with_reducible rfl⟩
  try simp only [Act.put, List.setIfInBounds_toArray, List.set_cons_zero, List.set_cons_succ]
  refine wpAnyH_take (i := 32) (oi := ?oi32) (v := ?v32) ?hi32 (by kernel_rfl) (by kernel_rfl) (by kernel_rfl) ?hq32 ?hy32 hHeld ?rest32
  case hi32 => ((try simp only [List.getElem?_toArray, List.getElem?_cons_succ, List.getElem?_cons_zero]); (try rfl))
  case hq32 => exact fun _ _ _ h => h
  case hy32 => exact Or.inl ⟨by rfl, by intro w hSw; clear hSw; go_simp; try with_reducible rfl⟩
  try simp only [Act.put, List.setIfInBounds_toArray, List.set_cons_zero, List.set_cons_succ]
  refine wpAnyH_take (i := 33) (oi := ?oi33) (v := ?v33) ?hi33 (by kernel_rfl) (by kernel_rfl) (by kernel_rfl) ?hq33 ?hy33 hHeld ?rest33
  case hi33 => ((try simp only [List.getElem?_toArray, List.getElem?_cons_succ, List.getElem?_cons_zero]); (try rfl))
  case hq33 => exact fun _ _ _ h => h
  case hy33 => exact Or.inl ⟨by rfl, by intro w hSw; clear hSw; go_simp; try with_reducible rfl⟩
  try simp only [Act.put, List.setIfInBounds_toArray, List.set_cons_zero, List.set_cons_succ]
  refine wpAnyH_take (i := 34) (oi := ?oi34) (v := ?v34) ?hi34 (by kernel_rfl) (by kernel_rfl) (by kernel_rfl) ?hq34 ?hy34 hHeld ?rest34
  case hi34 => ((try simp only [List.getElem?_toArray, List.getElem?_cons_succ, List.getElem?_cons_zero]); (try rfl))
  case hq34 => exact fun _ _ _ h => h
  case hy34 => exact Or.inl ⟨by rfl, by intro w hSw; clear hSw; go_simp; try with_reducible rfl⟩
  try simp only [Act.put, List.setIfInBounds_toArray, List.set_cons_zero, List.set_cons_succ]
  refine wpAnyH_take (i := 35) (oi := ?oi35) (v := ?v35) ?hi35 (by kernel_rfl) (by kernel_rfl) (by kernel_rfl) ?hq35 ?hy35 hHeld ?rest35
  case hi35 => ((try simp only [List.getElem?_toArray, List.getElem?_cons_succ, List.getElem?_cons_zero]); (try rfl))
  case hq35 => exact fun _ _ _ h => h
  case hy35 => exact Or.inl ⟨by rfl, by intro w hSw; clear hSw; go_simp; try with_reducible rfl⟩
  try simp only [Act.put, List.setIfInBounds_toArray, List.set_cons_zero, List.set_cons_succ]
  refine wpAnyH_take (i := 36) (oi := ?oi36) (v := ?v36) ?hi36 (by kernel_rfl) (by kernel_rfl) (by kernel_rfl) ?hq36 ?hy36 hHeld ?rest36
  case hi36 => ((try simp only [List.getElem?_toArray, List.getElem?_cons_succ, List.getElem?_cons_zero]); (try rfl))
  case hq36 => exact fun _ _ _ h => h
  case hy36 =>
    refine' yieldsIf_load_mid ?_ 23 (.tmp 19) ?_ w7.heap.size 0 ?_ (desigC n3 y3 u3 z3 c3) _ ?_ Tryd.underlying23 ?_ info5d
    · rfl
    · rfl
    · rfl
    · exact fun _ h => (LS.x3 h).row
    · rfl
  try simp only [Act.put, List.setIfInBounds_toArray, List.set_cons_zero, List.set_cons_succ]
  refine wpAnyH_take (i := 37) (oi := ?oi37) (v := ?v37) ?hi37 (by kernel_rfl) (by kernel_rfl) (by kernel_rfl) ?hq37 ?hy37 hHeld ?rest37
  case hi37 => ((try simp only [List.getElem?_toArray, List.getElem?_cons_succ, List.getElem?_cons_zero]); (try rfl))
  case hq37 => exact fun _ _ _ h => h
  case hy37 =>
    refine' yieldsIf_load_mid ?_ 23 (.tmp 21) ?_ w8.heap.size 0 ?_ (desigC n3 y3 u3 z3 c3) _ ?_ Tryd.underlying23 ?_ info5d
    · rfl
    · rfl
    · rfl
    · exact fun _ h => (LS.x4 h).row
    · rfl
  try simp only [Act.put, List.setIfInBounds_toArray, List.set_cons_zero, List.set_cons_succ]
  refine wpAnyH_take (i := 38) (oi := ?oi38) (v := ?v38) ?hi38 (by kernel_rfl) (by kernel_rfl) (by kernel_rfl) ?hq38 ?hy38 hHeld ?rest38
  case hi38 => ((try simp only [List.getElem?_toArray, List.getElem?_cons_succ, List.getElem?_cons_zero]); (try rfl))
  case hq38 => exact fun _ _ _ h => h
  case hy38 => exact Or.inl ⟨by rfl, by intro w hSw; clear hSw; go_simp; try with_reducible rfl⟩
  try simp only [Act.put, List.setIfInBounds_toArray, List.set_cons_zero, List.set_cons_succ]
  refine wpAnyH_take (i := 39) (oi := ?oi39) (v := ?v39) ?hi39 (by kernel_rfl) (by kernel_rfl) (by kernel_rfl) ?hq39 ?hy39 hHeld ?rest39
  case hi39 => ((try simp only [List.getElem?_toArray, List.getElem?_cons_succ, List.getElem?_cons_zero]); (try rfl))
  case hq39 => exact fun _ _ _ h => h
  case hy39 => exact Or.inl ⟨by rfl, by intro w hSw; clear hSw; go_simp; try with_reducible rfl⟩
  try simp only [Act.put, List.setIfInBounds_toArray, List.set_cons_zero, List.set_cons_succ]
  refine wpAnyH_take (i := 40) (oi := ?oi40) (v := ?v40) ?hi40 (by kernel_rfl) (by kernel_rfl) (by kernel_rfl) ?hq40 ?hy40 hHeld ?rest40
  case hi40 => ((try simp only [List.getElem?_toArray, List.getElem?_cons_succ, List.getElem?_cons_zero]); (try rfl))
  case hq40 => exact fun _ _ _ h => h
  case hy40 => exact Or.inl ⟨by rfl, by intro w hSw; clear hSw; go_simp; try with_reducible rfl⟩
  try simp only [Act.put, List.setIfInBounds_toArray, List.set_cons_zero, List.set_cons_succ]
  refine wpAnyH_take (i := 41) (oi := ?oi41) (v := ?v41) ?hi41 (by kernel_rfl) (by kernel_rfl) (by kernel_rfl) ?hq41 ?hy41 hHeld ?rest41
  case hi41 => ((try simp only [List.getElem?_toArray, List.getElem?_cons_succ, List.getElem?_cons_zero]); (try rfl))
  case hq41 => exact fun _ _ _ h => h
  case hy41 => exact Or.inl ⟨by rfl, by intro w hSw; clear hSw; go_simp; try with_reducible rfl⟩
  try simp only [Act.put, List.setIfInBounds_toArray, List.set_cons_zero, List.set_cons_succ]
  refine wpAnyH_take (i := 42) (oi := ?oi42) (v := ?v42) ?hi42 (by kernel_rfl) (by kernel_rfl) (by kernel_rfl) ?hq42 ?hy42 hHeld ?rest42
  case hi42 => ((try simp only [List.getElem?_toArray, List.getElem?_cons_succ, List.getElem?_cons_zero]); (try rfl))
  case hq42 => exact fun _ _ _ h => h
  case hy42 => exact Or.inl ⟨by rfl, by intro w hSw; clear hSw; go_simp; try with_reducible rfl⟩
  try simp only [Act.put, List.setIfInBounds_toArray, List.set_cons_zero, List.set_cons_succ]
  refine wpAnyH_take (i := 43) (oi := ?oi43) (v := ?v43) ?hi43 (by kernel_rfl) (by kernel_rfl) (by kernel_rfl) ?hq43 ?hy43 hHeld ?rest43
  case hi43 => ((try simp only [List.getElem?_toArray, List.getElem?_cons_succ, List.getElem?_cons_zero]); (try rfl))
  case hq43 => exact fun _ _ _ h => h
  case hy43 => exact Or.inl ⟨by rfl, by intro w hSw; clear hSw; go_simp; try with_reducible rfl⟩
  try simp only [Act.put, List.setIfInBounds_toArray, List.set_cons_zero, List.set_cons_succ]
  refine wpAnyH_take (i := 44) (oi := ?oi44) (v := ?v44) ?hi44 (by kernel_rfl) (by kernel_rfl) (by kernel_rfl) ?hq44 ?hy44 hHeld ?rest44
  case hi44 => ((try simp only [List.getElem?_toArray, List.getElem?_cons_succ, List.getElem?_cons_zero]); (try rfl))
  case hq44 => exact fun _ _ _ h => h
  case hy44 => exact Or.inl ⟨by rfl, by intro w hSw; clear hSw; go_simp; try with_reducible rfl⟩
  try simp only [Act.put, List.setIfInBounds_toArray, List.set_cons_zero, List.set_cons_succ]
  refine wpAnyH_take (i := 45) (oi := ?oi45) (v := ?v45) ?hi45 (by kernel_rfl) (by kernel_rfl) (by kernel_rfl) ?hq45 ?hy45 hHeld ?rest45
  case hi45 => ((try simp only [List.getElem?_toArray, List.getElem?_cons_succ, List.getElem?_cons_zero]); (try rfl))
  case hq45 => exact fun _ _ _ h => h
  case hy45 => exact Or.inl ⟨by rfl, by intro w hSw; clear hSw; go_simp; try with_reducible rfl⟩
  try simp only [Act.put, List.setIfInBounds_toArray, List.set_cons_zero, List.set_cons_succ]
  refine wpAnyH_done (by kernel_rfl) ?_ _
  have hB := hHeld.below
  clear hHeld
  go_wp2_with fail
  go_ret
  exact ⟨rfl, hB⟩
end Dw
end Go.Proofs.YtdjndoafnoidbaaDoor
