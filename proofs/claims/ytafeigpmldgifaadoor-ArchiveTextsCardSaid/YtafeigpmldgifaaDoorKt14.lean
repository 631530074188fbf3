/-
  Lemmas and walks, texts joined: KRAll, KTexts, OSlice, KTArg.
-/
import Derived.Deep.Slices
import Derived.Deep.Fields
import Derived.ChangeSame
import Derived.OpenShut
import Derived.Test.YtafeigpmldgifaaDoorKt11
import Derived.Test.YtafeigpmldgifaaDoorKt09
import Derived.Test.YtafeigpmldgifaaDoorKt13
import Derived.Test.YtafeigpmldgifaaDoorKt08
import Derived.Test.YtafeigpmldgifaaDoorKt02
import Derived.Test.YtafeigpmldgifaaDoorKt05
import Derived.Test.YtafeigpmldgifaaDoorCards
set_option linter.unusedSimpArgs false
set_option linter.unusedVariables false
/-
  The walks of WriteChanges and ReadChanges of the reference.
-/
namespace Go.Proofs.YtafeigpmldgifaaDoor
namespace Cgw
open Go.RowKit Lw Go.Proofs.YtafeigpmldgifaaDoor.Dp Go.Proofs.YtafeigpmldgifaaDoor.Cgp Go.Proofs.YtafeigpmldgifaaDoor.Arw

set_option maxRecDepth 100000 in
set_option maxHeartbeats 8000000 in
theorem rwrall_any (x : Option Addr) (cap : Nat) (l : List Cg) (w : World) (hl : ChA w x l) (hm : l.length ≤ 1000000) (hb : ∀ c ∈ l, CB c) :
    Calls Tryd.prog 10 #[.slice x l.length cap] w (WrAllPost l w) := by
  have HL := Lib.hid (fun w' (h : Below w.heap.size w w') => hl.below h)
  have CK := Lib.hid (fun i (h : i < l.length) w' => rmcheck_any (l[i]'h) w' (hb _ (List.getElem_mem h)))
  have LI := Lib.hid (fun i (h : i < l.length) w' ok => rline_any (l[i]'h) w' (hb _ (List.getElem_mem h)) ok)
  obtain ⟨n, hnl⟩ : ∃ n, l.length = n := ⟨_, rfl⟩
  rw [hnl] at hm ⊢
  by_cases h5 : 500 < n
  · have F := Lib.hid (show WrAllIs l [] 4 from Or.inl ⟨by omega, rfl, rfl⟩)
    have i5 : (500 : Int) < (n : Int) := by omega
    clear hl hb hnl HL CK LI
    go_enter Tryd.func10, Tryd.ntmps10
    go_wp2_with fail
    go_ret2
    exact ⟨_, 4, rfl, F.out, Below.refl _ _⟩
  · have i5 : ¬ (500 : Int) < (n : Int) := by omega
    have FIN : Hid (∀ s, Wrote l n s → WrAllIs l s.data.toList 0) := Lib.hid (fun s h => Wrote.all (by rw [hnl]; exact h) (by omega))
    have NO : Hid (∀ i (h : i < l.length), ¬ okC (l[i]'h) → WrAllIs l [] 8) := Lib.hid (fun i h g => Or.inr (Or.inl ⟨by omega, ⟨_, List.getElem_mem h, g⟩, rfl, rfl⟩))
    have NL := Lib.hid hnl
    have n5 : n ≤ 500 := by omega
    clear hl hb hnl h5
    go_enter Tryd.func10, Tryd.ntmps10
    go_wp2_with fail
    go_loopw [4] (fun i wr => ∃ k : Nat, k ≤ n ∧ i = .int .i64 k ∧ Hid (∀ j (h : j < l.length), j < k → okC (l[j]'h)) ∧ Hid (Below w.heap.size w wr)) (fun i _ => n - (intOf i).toNat)
    case atStart => exact ⟨0, Nat.zero_le _, rfl, Lib.hid (fun j _ h => absurd h (Nat.not_lt_zero j)), Lib.hid (Below.refl _ _)⟩
    case round =>
      obtain ⟨k, hk, rfl, D, X⟩ := hrel
      by_cases hlt : k < n
      · have hkl : k < l.length := by rw [NL.out]; exact hlt
        obtain ⟨b, off, rfl, lt, row⟩ := (HL.out _ X.out).get hkl
        have R := Lib.hid row
        have CKk := Lib.hid (CK.out k hkl)
        have NOk := Lib.hid (NO.out k hkl)
        have DK := Lib.hid (fun (g : okC (l[k]'hkl)) => (show ∀ j (h : j < l.length), j < k + 1 → okC (l[j]'h) from fun j h hj => by
          by_cases e : j = k
          · subst e; exact g
          · exact D.out j h (by omega)))
        have i1 : (k : Int) < (n : Int) := by omega
        clear FIN row lt LI NO D CK
        generalize l[k]'hkl = o at *
        go_wp2_with (refine wpList_load_mid rfl _ (.tmp 18) rfl b (off + k * 12) rfl (cgC o) _ R.out Tryd.underlying52 rfl infoCg ?_)
        refine (CKk.out _).mono ?_
        rintro e w2 ⟨⟨r, rfl, hr⟩, hb2⟩
        have B2 := Lib.hid (below_then X.out hb2)
        clear hb2 X CKk R
        rcases hr with ⟨ok, rfl⟩ | ⟨no, rfl⟩
        · have D2 := Lib.hid (DK.out ok)
          clear DK NOk ok
          go_wp2_with fail
          go_roundw
          case rel => exact ⟨k + 1, by omega, by go_num, D2, B2⟩
          case measure => simp [intOf]; omega
        · have N2 := Lib.hid (NOk.out no)
          clear DK no NOk
          go_wp2_with fail
          go_ret2
          exact ⟨_, 8, rfl, N2.out, B2.out⟩
      · obtain rfl : k = n := by omega
        have i1 : ¬ (k : Int) < (k : Int) := by omega
        have ALL : Hid (∀ j (h : j < l.length), okC (l[j]'h)) := Lib.hid (fun j h => D.out j h (by rw [← NL.out]; exact h))
        clear D NO CK
        go_wp2_with fail
        go_loopw [5, 6] (fun sv i wr => ∃ (j : Nat) (s : ByteArray), j ≤ k ∧ sv = .string s ∧ i = .int .i64 j ∧ Hid (Wrote l j s) ∧ Hid (Below w.heap.size w wr)) (fun _ i _ => k - (intOf i).toNat)
        case atStart => exact ⟨0, _, Nat.zero_le _, rfl, rfl, Lib.hid (Wrote.nil l), X⟩
        case round =>
          obtain ⟨j, s, hj, rfl, rfl, HS, B⟩ := hrel
          have zs := HS.out.2.2
          clear X
          by_cases hlj : j < k
          · have hkl : j < l.length := by rw [NL.out]; exact hlj
            obtain ⟨b, off, rfl, lt, row⟩ := (HL.out _ B.out).get hkl
            have R := Lib.hid row
            have OKj := Lib.hid (ALL.out j hkl)
            have LIj := Lib.hid (fun w' => LI.out j hkl w' OKj.out)
            have ST : Hid (∀ u : ByteArray, u.data.toList = lineC (l[j]'hkl) ++ [10] → Wrote l (j + 1) (s ++ u)) := Lib.hid (fun u h => HS.out.next hkl OKj.out h)
            have i2 : (j : Int) < (k : Int) := by omega
            clear FIN row lt LI HS ALL
            generalize l[j]'hkl = o at *
            go_wp2_with (refine wpList_load_mid rfl _ (.tmp 31) rfl b (off + j * 12) rfl (cgC o) _ R.out Tryd.underlying52 rfl infoCg ?_)
            refine (LIj.out _).mono ?_
            rintro e w2 ⟨t, rfl, ht, zt, hb2⟩
            have B2 := Lib.hid (below_then B.out hb2)
            have ST2 := Lib.hid (ST.out t ht)
            clear hb2 B LIj R ST OKj ht
            obtain ⟨t3, ht3⟩ : ∃ t3, s ++ t = t3 := ⟨_, rfl⟩
            rw [ht3] at ST2
            have cat2 : ∀ w', (Go.Op.stringOp .add s t).run Tryd.prog w' = .ok (.string t3) w' := fun w' => by rw [run_string_add_sum (P := Tryd.prog) (w := w') _ _ (by omega), ← ht3]
            clear ht3 zs zt
            go_wp2_with fail
            go_roundw
            case rel => exact ⟨j + 1, _, by omega, rfl, by go_num, ST2, B2⟩
            case measure => simp [intOf]; omega
          · obtain rfl : j = k := by omega
            have i2 : ¬ (j : Int) < (j : Int) := by omega
            have F := Lib.hid (FIN.out s HS.out)
            clear HL LI FIN HS NL ALL
            go_wp2_with fail
            go_ret2
            exact ⟨s, 0, rfl, F.out, B.out⟩
theorem parts_at {L : List UInt8} {f i : Nat} (hf : f ≤ i) (hi : i < L.length) : L = L.take f ++ ((L.drop f).take (i - f) ++ L[i]'hi :: L.drop (i + 1)) := by
  have e1 : L.drop i = L[i]'hi :: L.drop (i + 1) := List.drop_eq_getElem_cons hi
  have e2 : (L.drop f).drop (i - f) = L.drop i := by rw [List.drop_drop]; congr 1; omega
  rw [← e1, ← e2, List.take_append_drop, List.take_append_drop]
theorem take_grow {L : List UInt8} {f i : Nat} (hf : f ≤ i) (hi : i < L.length) : (L.drop f).take (i + 1 - f) = (L.drop f).take (i - f) ++ [L[i]'hi] := by
  have h : i - f < (L.drop f).length := by rw [List.length_drop]; omega
  rw [show i + 1 - f = i - f + 1 by omega, List.take_succ_eq_append_getElem h]
  congr 2
  rw [List.getElem_drop]
  congr 1
  omega
theorem ext_take (s : ByteArray) (f i : Nat) : (s.extract f i).data.toList = (s.data.toList.drop f).take (i - f) := by simp [ByteArray.data_extract, List.extract]
/-- What the reference has read so far. -/
structure Rdg (s : ByteArray) (l : List Cg) (f i : Nat) : Prop where
  ok : ∀ c ∈ l, okC c ∧ CB c
  done : s.data.toList.take f = flatC l
  free : ∀ x ∈ (s.data.toList.drop f).take (i - f), x ≠ 10
  le : f ≤ i
  lt : i ≤ s.size
theorem Rdg.step {s : ByteArray} {l : List Cg} {f i : Nat} (h : Rdg s l f i) (hi : i < s.data.toList.length) (n : s.data.toList[i]'hi ≠ 10) : Rdg s l f (i + 1) :=
  ⟨h.ok, h.done, fun x hx => by
    rw [take_grow h.le hi] at hx
    rcases List.mem_append.1 hx with hx | hx
    · exact h.free x hx
    · rw [List.mem_singleton.1 hx]; exact n, by have := h.le; omega, hi⟩
theorem Rdg.line {s : ByteArray} {l : List Cg} {f i : Nat} (h : Rdg s l f i) (hi : i < s.data.toList.length) (n : s.data.toList[i]'hi = 10) : s.data.toList = flatC l ++ ((s.extract f i).data.toList ++ 10 :: s.data.toList.drop (i + 1)) ∧ ∀ x ∈ (s.extract f i).data.toList, x ≠ 10 := by
  have e := parts_at h.le hi
  rw [h.done, n, ← ext_take] at e
  exact ⟨e, by rw [ext_take]; exact h.free⟩
theorem Rdg.more {s : ByteArray} {l : List Cg} {f i : Nat} (h : Rdg s l f i) (hi : i < s.data.toList.length) (n : s.data.toList[i]'hi = 10) {c : Cg} (ok : okC c) (cb : CB c) (e : lineC c = (s.extract f i).data.toList) : Rdg s (l ++ [c]) (i + 1) (i + 1) :=
  ⟨fun x hx => by
    rcases List.mem_append.1 hx with hx | hx
    · exact h.ok x hx
    · rw [List.mem_singleton.1 hx]; exact ⟨ok, cb⟩, by
    have z : s.data.toList.take (i + 1) = s.data.toList.take f ++ ((s.data.toList.drop f).take (i - f) ++ [s.data.toList[i]'hi]) := by
      rw [← take_grow h.le hi]
      have := h.le
      rw [show i + 1 = f + (i + 1 - f) by omega, List.take_add]
      congr 2
      omega
    rw [z, h.done, n, ← ext_take, ← e, flatC_snoc], fun x hx => by simp at hx, Nat.le_refl _, hi⟩
set_option maxRecDepth 100000 in
set_option maxHeartbeats 8000000 in
theorem rrdall_any (s : ByteArray) (w : World) (hs : s.size ≤ 1000) : Calls Tryd.prog 8 #[.string s] w (RdAllPost s w) := by
  have RC := Lib.hid (fun (a : ByteArray) w' (hz : a.size ≤ 1000) => rchange_any a w' hz)
  go_enter Tryd.func8, Tryd.ntmps8
  go_wp2_with fail
  go_loopw [4, 5, 6] (fun v fv iv wr => ∃ (l : List Cg) (f i : Nat), i ≤ s.size ∧ fv = .int .i64 f ∧ iv = .int .i64 i ∧ Hid (Rdg s l f i) ∧ Hid (OwnC wr w.heap.size v l) ∧ Hid (Below w.heap.size w wr)) (fun _ _ i _ => s.size - (intOf i).toNat)
  case atStart => exact ⟨[], 0, 0, Nat.zero_le _, rfl, rfl, Lib.hid ⟨fun _ h => by simp at h, by simp [flatC], fun _ h => by simp at h, Nat.le_refl _, Nat.zero_le _⟩, Lib.hid (OwnC.nil w _ (Nat.le_refl _)), Lib.hid (Below.refl _ _)⟩
  case round =>
    obtain ⟨l, f, i, hi, rfl, rfl, G, HO, HB⟩ := hrel
    have fi := G.out.le
    have zl : l.length ≤ s.size := by
      have e := congrArg List.length G.out.done
      rw [List.length_take] at e
      have := @flat_len l
      have e1 : s.data.toList.length = s.size := rfl
      omega
    by_cases hlt : i < s.size
    · have hiL : i < s.data.toList.length := hlt
      have i1 : (i : Int) < (s.size : Int) := by omega
      have eb : (s[i]'hlt) = s.data.toList[i]'hiL := rfl
      by_cases h10 : s.data.toList[i]'hiL = 10
      · have c10 : (((s[i]'hlt).toNat : Int) != 10) = false := by rw [eb, h10]; rfl
        obtain ⟨g1, g2⟩ := G.out.line hiL h10
        have BAD := Lib.hid (fun (h : ∀ e, okC e → lineC e ≠ (s.extract f i).data.toList) => rdall_bad (fun c hc => (G.out.ok c hc).1) g1 g2 h)
        have MORE := Lib.hid (fun (q : Cg) ok cb (e : lineC q = (s.extract f i).data.toList) => G.out.more hiL h10 ok cb e)
        have RCa := Lib.hid (RC.out (s.extract f i) · (by rw [ByteArray.size_extract]; omega))
        have f0 : (0 : Int) ≤ (f : Int) := by omega
        have f1 : (f : Int) ≤ (i : Int) := by omega
        have f2 : (i : Int) ≤ (s.size : Int) := by omega
        clear g1 g2 RC G h10 eb
        obtain ⟨a, ha⟩ : ∃ a, s.extract f i = a := ⟨_, rfl⟩
        rw [ha] at BAD MORE RCa
        go_wp2_with fail
        refine (RCa.out _).mono ?_
        rintro e w2 ⟨q, ok, rfl, h1, h2, hq, hb2⟩
        have bx := (Below.refl w2.heap.size w2).alloc (Nat.le_refl _) (.cells (cgC q).toArray 52)
        have O2 := Lib.hid ((HO.out.below hb2).below bx)
        have B2 := Lib.hid (below_then (below_then HB.out hb2) bx)
        have X2 := Lib.hid (Rw.new w2 (cgC q) 52)
        clear hb2 HO HB RCa bx ha
        cases ok
        · have F : Hid (RdAllIs s.data.toList [] 12) := Lib.hid (by
            rcases h2 rfl with ⟨g, g2, g3⟩ | ⟨g, _, _⟩
            · exact absurd g3 (by decide)
            · exact BAD.out g)
          clear h1 h2 BAD MORE X2 O2
          go_wp2_with (refine wpList_store_new rfl _ (.tmp 7) (.tmp 25) rfl _ _ rfl rfl infoCg rfl ?_ ?_; simp [Value.oneCell'])
          go_ret2
          exact ⟨_, [], 12, rfl, F.out, SlC.nil _, (fun _ h => by simp at h), Nat.zero_le _, B2.out⟩
        · have G1 : Hid (Rdg s (l ++ [q]) (i + 1) (i + 1)) := Lib.hid (by
            rcases h1 rfl with ⟨g, g2, _⟩ | ⟨_, _, g3⟩
            · exact MORE.out q g hq g2
            · exact absurd g3 (by decide))
          have zl2 : l.length ≤ 1000000 := by omega
          clear h1 h2 BAD MORE zl
          go_wp2_with (first | (refine wpList_store_new rfl _ (.tmp 7) (.tmp 25) rfl _ _ rfl rfl infoCg rfl ?_ ?_; simp [Value.oneCell']) | (refine wpList_load_mid rfl _ (.tmp 7) rfl w2.heap.size 0 rfl (cgC q) _ X2.out.row Tryd.underlying52 rfl infoCg ?_) | (at_builtin; refine wp_appC _ rfl (.tmp 29) (.tmp 31) rfl w.heap.size _ l q rfl (by first | rfl | simp [Act.eval]) O2.out zl2 ?_; intro v' w3 hO3 hb3))
          have B3 := Lib.hid (B2.out.trans hb3)
          have O3 := Lib.hid hO3
          clear hO3 hb3 B2 O2 X2
          go_wp2_with fail
          go_roundw
          case rel => exact ⟨_, i + 1, i + 1, by omega, by go_num, by go_num, G1, O3, B3⟩
          case measure => simp [intOf]; omega
      · have c10 : (((s[i]'hlt).toNat : Int) != 10) = true := by
          rw [bne, beq_eq_false_iff_ne.2]
          · rfl
          · intro e
            rw [eb] at e
            have e2 : (s.data.toList[i]'hiL).toNat = (10 : UInt8).toNat := by have e3 : (10 : UInt8).toNat = 10 := rfl; rw [e3]; exact Int.ofNat.inj e
            exact h10 (UInt8.toNat.inj e2)
        have G1 := Lib.hid (G.out.step hiL h10)
        clear RC G h10 eb
        go_wp2_with fail
        go_roundw
        case rel => exact ⟨l, f, i + 1, by omega, rfl, by go_num, G1, HO, HB⟩
        case measure => simp [intOf]; omega
    · obtain rfl : i = s.size := by omega
      have i1 : ¬ (s.size : Int) < (s.size : Int) := by omega
      clear RC
      have zz : s.data.toList.length = s.size := rfl
      have OKL := Lib.hid (fun c (h : c ∈ l) => (G.out.ok c h).1)
      by_cases h0 : f = s.size
      · have e0 : ((f : Int) != (s.size : Int)) = false := by rw [h0]; simp
        have F := Lib.hid (show RdAllIs s.data.toList l 0 from Or.inl ⟨OKL.out, by rw [← G.out.done, List.take_of_length_le (by omega)], rfl⟩)
        have CBL := Lib.hid (fun c (h : c ∈ l) => (G.out.ok c h).2)
        have HX := Lib.hid (slC_of HO.out)
        clear G HO OKL
        subst h0
        go_wp2_with fail
        go_ret2
        exact ⟨_, l, 0, rfl, F.out, HX.out, CBL.out, zl, HB.out⟩
      · have e0 : ((f : Int) != (s.size : Int)) = true := by
          rw [bne, beq_eq_false_iff_ne.2]
          · rfl
          · omega
        have F : Hid (RdAllIs s.data.toList [] 12) := Lib.hid (by
          refine rdall_open (p := s.data.toList.drop f) OKL.out ?_ ?_ ?_
          · rw [← G.out.done, List.take_append_drop]
          · have := G.out.free
            rwa [List.take_of_length_le (by rw [List.length_drop]; omega)] at this
          · intro e
            have := congrArg List.length e
            rw [List.length_drop] at this
            simp at this
            omega)
        clear G HO OKL zz
        go_wp2_with fail
        go_ret2
        exact ⟨_, [], 12, rfl, F.out, SlC.nil _, (fun _ h => by simp at h), Nat.zero_le _, HB.out⟩
end Cgw
end Go.Proofs.YtafeigpmldgifaaDoor
/-
  The law ArchiveTexts: the walk.
-/
namespace Go.Proofs.YtafeigpmldgifaaDoor
namespace Cgw
open Go.RowKit Lw Go.Proofs.YtafeigpmldgifaaDoor.Dp Go.Proofs.YtafeigpmldgifaaDoor.Cgp Go.Proofs.YtafeigpmldgifaaDoor.Arw Go.Proofs.YtafeigpmldgifaaDoor.Arp

theorem u8_at {D : List Nat} {i : Nat} (h : i < D.length) : ((D.map fun (x : Nat) => Value.int .u8 (x : Int)).toArray)[i]? = some (.int .u8 ((D.getD i 0 : Nat) : Int)) := by
  rw [List.getElem?_toArray, List.getElem?_map, List.getElem?_eq_getElem h, List.getD_eq_getElem?_getD, List.getElem?_eq_getElem h]
  rfl
theorem dig_items (D E : List Nat) (hD : D.length = 32) (hE : E.length = 32) (d : Nat) (w : World) : ∀ is : List Nat, (∀ i ∈ is, i < 32) →
    (Op.eqItems (d + 1) 5 1 (D.map fun (x : Nat) => Value.int .u8 (x : Int)).toArray (E.map fun (x : Nat) => Value.int .u8 (x : Int)).toArray is).run Tryd.prog w = .ok (is.all fun i => ((D.getD i 0 : Nat) : Int) == ((E.getD i 0 : Nat) : Int)) w
  | [], _ => by simp [Op.eqItems]
  | i :: is, h => by
    have hi := h i (List.mem_cons_self ..)
    have ih := dig_items D E hD hE d w is (fun x hx => h x (List.mem_cons_of_mem _ hx))
    have p1 := run_part_plain (P := Tryd.prog) w (e := 5) (off := i * 1) (by kernel_rfl) (by rw [Nat.mul_one]; exact u8_at (by omega : i < D.length))
    have p2 := run_part_plain (P := Tryd.prog) w (e := 5) (off := i * 1) (by kernel_rfl) (by rw [Nat.mul_one]; exact u8_at (by omega : i < E.length))
    have p3 := run_equalIn_int (P := Tryd.prog) w d 5 .u8 .u8 ((D.getD i 0 : Nat) : Int) ((E.getD i 0 : Nat) : Int) Tryd.underlying5
    simp only [Op.eqItems, Sem.run_bind, p1, p2, p3, Result.andThen_ok, List.all_cons]
    cases hq : (((D.getD i 0 : Nat) : Int) == ((E.getD i 0 : Nat) : Int))
    · simp
    · simpa using ih
theorem dig_eql (D E : List Nat) (h : D.length = 32) (h' : E.length = 32) (w : World) : (Op.equalIn 10000 23 (digV D) (digV E)).run Tryd.prog w = .ok ((List.range 32).all fun i => ((D.getD i 0 : Nat) : Int) == ((E.getD i 0 : Nat) : Int)) w := by
  obtain ⟨i, hi⟩ : ∃ i, Tryd.prog.info? 5 = some i := info_of_underlying Tryd.underlying5
  have e := run_equalIn_array (P := Tryd.prog) w 9999 (D.map fun (x : Nat) => Value.int .u8 (x : Int)).toArray (E.map fun (x : Nat) => Value.int .u8 (x : Int)).toArray Tryd.underlying23 hi
  rw [show Tryd.prog.cellsOf 5 = 1 by kernel_rfl, dig_items D E h h' 9998 w _ (fun i hi => List.mem_range.1 hi)] at e
  exact e
theorem dig_same (D : List Nat) (h : D.length = 32) (w : World) : (Op.equalIn 10000 23 (digV D) (digV D)).run Tryd.prog w = .ok true w := by
  rw [dig_eql D D h h w]
  congr 1
  simp
/-- What the law keeps. -/
structure TX (w0 : World) (b6 b9 b11 : Nat) (A B : List Value) (m : List Cg) (x1 x2 : Option Addr) (w : World) : Prop where
  r6 : w.rangeAt b6 0 A
  r9 : w.rangeAt b9 0 B
  r11 : w.rangeAt b11 0 B
  l6 : b6 < w.heap.size
  l9 : b9 < w.heap.size
  l11 : b11 < w.heap.size
  c1 : ChA w x1 m
  c2 : ChA w x2 m
  ky : Arw.Keys w
  dg : Arw.Digs w
  below : Below w0.heap.size w0 w
theorem TX.call {w0 : World} {b6 b9 b11 : Nat} {A B : List Value} {m : List Cg} {x1 x2 : Option Addr} {w w' : World} (h : TX w0 b6 b9 b11 A B m x1 x2 w) (hb : Below w.heap.size w w') : TX w0 b6 b9 b11 A B m x1 x2 w' :=
  ⟨rangeAt_below h.r6 hb h.l6, rangeAt_below h.r9 hb h.l9, rangeAt_below h.r11 hb h.l11, Nat.lt_of_lt_of_le h.l6 hb.size, Nat.lt_of_lt_of_le h.l9 hb.size, Nat.lt_of_lt_of_le h.l11 hb.size, h.c1.below hb, h.c2.below hb, h.ky.below hb, h.dg.below hb, below_then h.below hb⟩
theorem str_ext {s t : ByteArray} (h : s.data.toList = t.data.toList) : s = t := by
  apply ByteArray.ext
  exact Array.ext' h
set_option maxRecDepth 100000 in
set_option maxHeartbeats 32000000 in
theorem texts_any (s t : ByteArray) (D : List Nat) (x : Option Addr) (l : List Cg) (cap : Nat) (w : World) (hs : s.size ≤ maxLen) (ht : t.size ≤ maxLen) (DL : D.length = 32) (lt : ∀ x ∈ D, x < 256) (hm : l.length ≤ 9223372036854775807)
    (hT : Dw.Tb w) (hM : MX w) (hE : Ow.ES w) (hR : ER w) (hK : Arw.Keys w) (hD : Arw.Digs w) (hl : ChA w x l) (hb : ∀ c ∈ l, CB c) :
    Calls Tryd.prog 3 #[.string s, .string t, digV D, .slice x l.length cap] w fun e w' => e = .returned (.bool true) ∧ Below w.heap.size w w' := by
  have HS := Lib.hid (fun w' (h : Below w.heap.size w w') => And.intro (hT.below h) (And.intro (hM.below h) (And.intro (hE.below h) (And.intro (hR.below h) (And.intro (hK.below h) (And.intro (hD.below h) (hl.below h)))))))
  have GR := Lib.hid (fun w' => greatc_any x l.length cap w' hm)
  have PH := Lib.hid (fun w' (h : Arw.Digs w') (z : s.size ≤ 100000) => Arw.parsehex_any s w' h z)
  have RPH := Lib.hid (fun w' (z : s.size ≤ 100000) => Arw.rparsehex_any s w' z)
  have RD := Lib.hid (fun w' h1 h2 h3 h4 (z : t.size ≤ 1000) => rdall_any t w' h1 h2 h3 h4 z)
  have RRD := Lib.hid (fun w' (z : t.size ≤ 1000) => rrdall_any t w' z)
  have WR := Lib.hid (fun w' h1 h2 (z : l.length ≤ 1000000) => wrall_any x cap l w' h1 h2 z hb)
  have RWR := Lib.hid (fun w' h2 (z : l.length ≤ 1000000) => rwrall_any x cap l w' h2 z hb)
  have C1 := Lib.hid (fun w' (h : Arw.Keys w') (z : s.size ≤ 1000) => Arw.sum_any s w' (by omega) h)
  have C2 := Lib.hid (fun w' (z : s.size ≤ 1000) => Arw.rsum_any s w' z)
  have C3 := Lib.hid (fun w' (h : Arw.Digs w') => Arw.hex_any D DL lt w' h)
  have C4 := Lib.hid (fun w' => Arw.rhex_any D DL lt w')
  have dsL : (digestL s.data.toList).length = 32 := Arw.digest_len _
  have Q1 := Lib.hid (fun w' => dig_same (digestL s.data.toList) dsL w')
  have QB := Lib.hid (fun (E : List Nat) (h : E.length = 32) w' => dig_same E h w')
  obtain ⟨n, hn⟩ : ∃ n, l.length = n := ⟨_, rfl⟩
  obtain ⟨A, hA⟩ : ∃ A : List Value, (D.map fun (x : Nat) => Value.int .u8 (x : Int)) = A := ⟨_, rfl⟩
  obtain ⟨G, hG⟩ : ∃ G : List Value, ((digestL s.data.toList).map fun (x : Nat) => Value.int .u8 (x : Int)) = G := ⟨_, rfl⟩
  have la : A.length = 32 := by rw [← hA, List.length_map, DL]
  have IA : Hid ((Tryd.prog.info? 23).map (·.size) = some A.length) := Lib.hid (by rw [la]; exact Arw.info32d)
  have EA : digV D = .agg A.toArray := by rw [← hA]
  have EG : digV (digestL s.data.toList) = .agg G.toArray := by rw [← hG]
  rw [EA] at C3 C4
  rw [EG] at C1 C2 Q1
  rw [EA]
  rw [hn] at GR WR RWR hm
  rw [hn]
  have HN := Lib.hid hn
  have bb := (Below.refl w.heap.size w).alloc (Nat.le_refl _) (.cells A.toArray 23)
  have X0 := Lib.hid (And.intro (rangeAt_new w A 23) bb)
  have l0 : w.heap.size < (w.alloc (.cells A.toArray 23)).heap.size := by simp
  clear hT hM hE hR hK hD hl hb hA hG lt dsL la DL EA EG hn bb
  go_enter Tryd.func3, Tryd.ntmps3
  go_upto_region 1 with fail
  generalize w.alloc (.cells A.toArray 23) = wa at *
  unfold maxLen at hs ht
  by_cases z1 : 400 < s.size
  · have i1 : (400 : Int) < (s.size : Int) := by omega
    clear HS GR PH RPH RD RRD WR RWR C1 C2 C3 C4 Q1 QB
    go_wp2_with fail
    go_ret
    exact ⟨rfl, X0.out.2⟩
  have i1 : ¬ (400 : Int) < (s.size : Int) := by omega
  by_cases z2 : 400 < t.size
  · have i2 : (400 : Int) < (t.size : Int) := by omega
    clear HS GR PH RPH RD RRD WR RWR C1 C2 C3 C4 Q1 QB
    go_wp2_with fail
    go_ret
    exact ⟨rfl, X0.out.2⟩
  have i2 : ¬ (400 : Int) < (t.size : Int) := by omega
  replace PH := Lib.hid (fun w' h => PH.out w' h (by omega))
  replace RPH := Lib.hid (fun w' => RPH.out w' (by omega))
  replace RD := Lib.hid (fun w' h1 h2 h3 h4 => RD.out w' h1 h2 h3 h4 (by omega))
  replace RRD := Lib.hid (fun w' => RRD.out w' (by omega))
  replace C1 := Lib.hid (fun w' h => C1.out w' h (by omega))
  replace C2 := Lib.hid (fun w' => C2.out w' (by omega))
  have TL : t.size ≤ 400 := by omega
  clear z1 z2 hs ht
  have L0 := Lib.hid l0
  clear l0
  go_wp2_with fail
  refine (GR.out _).mono ?_
  rintro e w0 ⟨h, rfl⟩
  clear GR
  rcases h with rfl | ⟨rfl, hn⟩
  · clear HS PH RPH RD RRD WR RWR C1 C2 C3 C4 Q1 QB
    go_wp2_with fail
    go_ret
    exact ⟨rfl, X0.out.2⟩
  replace WR := Lib.hid (fun w' h1 h2 => WR.out w' h1 h2 (by omega))
  replace RWR := Lib.hid (fun w' h2 => RWR.out w' h2 (by omega))
  clear hn hm i1 i2
  go_wp2_with fail
  refine (PH.out _ (HS.out _ X0.out.2).2.2.2.2.2.1).mono ?_
  rintro e w1 ⟨E, c, rfl, hx, EL, hb⟩
  have HX := Lib.hid hx
  obtain ⟨B, hB⟩ : ∃ B : List Value, (E.map fun (x : Nat) => Value.int .u8 (x : Int)) = B := ⟨_, rfl⟩
  have lb : B.length = 32 := by rw [← hB, List.length_map, EL]
  have IB : Hid ((Tryd.prog.info? 23).map (·.size) = some B.length) := Lib.hid (by rw [lb]; exact Arw.info32d)
  have EB : digV E = .agg B.toArray := by rw [← hB]
  have OB : Hid (B.toArray.all (·.oneCell') = true) := Lib.hid (by rw [← hB]; simp [Value.oneCell'])
  have LB : Hid (B.toArray.size = 32) := Lib.hid (by rw [List.size_toArray]; exact lb)
  replace QB := Lib.hid (QB.out E EL)
  rw [EB] at QB
  rw [EB]
  have HEB := Lib.hid EB
  have b1 := (Below.refl w1.heap.size w1).alloc (Nat.le_refl _) (.cells B.toArray 23)
  have l1 : w.heap.size < w1.heap.size := Nat.lt_of_lt_of_le L0.out hb.size
  have X1 : Hid ((w1.alloc (.cells B.toArray 23)).rangeAt w.heap.size 0 A ∧ Below w.heap.size w (w1.alloc (.cells B.toArray 23)) ∧ (w1.alloc (.cells B.toArray 23)).rangeAt w1.heap.size 0 B ∧ w1.heap.size < (w1.alloc (.cells B.toArray 23)).heap.size ∧ w.heap.size < (w1.alloc (.cells B.toArray 23)).heap.size) :=
    Lib.hid ⟨rangeAt_below (rangeAt_below X0.out.1 hb L0.out) b1 l1, below_then (below_then X0.out.2 hb) b1, rangeAt_new w1 B 23, by simp, by simp; omega⟩
  clear X0 hx EL lb hb b1 l1 L0 PH hB EB
  go_wp2_with (refine wpList_store_new rfl _ (.tmp 9) (.tmp 36) rfl _ B.toArray rfl rfl IB.out (show (32 : Nat) = _ from LB.out.symm) OB.out ?_)
  generalize w1.alloc (.cells B.toArray 23) = w2 at *
  refine (RPH.out _).mono ?_
  rintro e w3 ⟨E2, c2, rfl, hx, _, hb⟩
  obtain ⟨eE, rfl⟩ := HX.out.uniq hx
  subst eE
  rw [HEB.out]
  have b1 := (Below.refl w3.heap.size w3).alloc (Nat.le_refl _) (.cells B.toArray 23)
  have l1 := Nat.lt_of_lt_of_le X1.out.2.2.2.1 hb.size
  have l2 := Nat.lt_of_lt_of_le X1.out.2.2.2.2 hb.size
  have X2 : Hid ((w3.alloc (.cells B.toArray 23)).rangeAt w.heap.size 0 A ∧ Below w.heap.size w (w3.alloc (.cells B.toArray 23)) ∧ (w3.alloc (.cells B.toArray 23)).rangeAt w1.heap.size 0 B ∧ w1.heap.size < (w3.alloc (.cells B.toArray 23)).heap.size ∧ w.heap.size < (w3.alloc (.cells B.toArray 23)).heap.size ∧ (w3.alloc (.cells B.toArray 23)).rangeAt w3.heap.size 0 B ∧ w3.heap.size < (w3.alloc (.cells B.toArray 23)).heap.size) :=
    Lib.hid ⟨rangeAt_below (rangeAt_below X1.out.1 hb X1.out.2.2.2.2) b1 l2, below_then (below_then X1.out.2.1 hb) b1, rangeAt_below (rangeAt_below X1.out.2.2.1 hb X1.out.2.2.2.1) b1 l1, by simp; omega, by simp; omega, rangeAt_new w3 B 23, by simp⟩
  clear X1 hx hb b1 l1 l2 RPH HX HEB
  go_wp2_with (refine wpList_store_new rfl _ (.tmp 11) (.tmp 41) rfl _ B.toArray rfl rfl IB.out (show (32 : Nat) = _ from LB.out.symm) OB.out ?_)
  generalize w3.alloc (.cells B.toArray 23) = w4 at *
  have h4 := HS.out _ X2.out.2.1
  refine (RD.out _ h4.1 h4.2.1 h4.2.2.1 h4.2.2.2.1).mono ?_
  rintro e w5 ⟨v1, m, k, rfl, hr, hv, _, ml, hb⟩
  have HR := Lib.hid hr
  obtain ⟨x1, p1, rfl, hv⟩ := hv
  have X3 : Hid (w5.rangeAt w.heap.size 0 A ∧ Below w.heap.size w w5 ∧ w5.rangeAt w1.heap.size 0 B ∧ w1.heap.size < w5.heap.size ∧ w.heap.size < w5.heap.size ∧ w5.rangeAt w3.heap.size 0 B ∧ w3.heap.size < w5.heap.size ∧ ChA w5 x1 m) :=
    Lib.hid ⟨rangeAt_below X2.out.1 hb X2.out.2.2.2.2.1, below_then X2.out.2.1 hb, rangeAt_below X2.out.2.2.1 hb X2.out.2.2.2.1, Nat.lt_of_lt_of_le X2.out.2.2.2.1 hb.size, Nat.lt_of_lt_of_le X2.out.2.2.2.2.1 hb.size, rangeAt_below X2.out.2.2.2.2.2.1 hb X2.out.2.2.2.2.2.2, Nat.lt_of_lt_of_le X2.out.2.2.2.2.2.2 hb.size, hv⟩
  clear X2 hr hv hb h4 RD
  go_wp2_with fail
  refine (RRD.out _).mono ?_
  rintro e w6 ⟨v2, m2, k2, rfl, hr, hv, _, _, hb⟩
  obtain ⟨em, rfl⟩ := HR.out.uniq hr
  subst em
  obtain ⟨x2, p2, rfl, hv⟩ := hv
  have h5 := HS.out _ (below_then X3.out.2.1 hb)
  have X4 : Hid (TX w w.heap.size w1.heap.size w3.heap.size A B m x1 x2 w6) :=
    Lib.hid ⟨rangeAt_below X3.out.1 hb X3.out.2.2.2.2.1, rangeAt_below X3.out.2.2.1 hb X3.out.2.2.2.1, rangeAt_below X3.out.2.2.2.2.2.1 hb X3.out.2.2.2.2.2.2.1, Nat.lt_of_lt_of_le X3.out.2.2.2.2.1 hb.size, Nat.lt_of_lt_of_le X3.out.2.2.2.1 hb.size, Nat.lt_of_lt_of_le X3.out.2.2.2.2.2.2.1 hb.size, X3.out.2.2.2.2.2.2.2.below hb, hv, h5.2.2.2.2.1, h5.2.2.2.2.2.1, below_then X3.out.2.1 hb⟩
  have C5 := Lib.hid (fun w' (h1 : ChA w' x1 m) (h2 : ChA w' x2 m) => samec_any x1 x2 p1 p2 m w' h1 h2 (by omega))
  clear X3 hr hv hb h5 RRD HR
  obtain ⟨mn, hmn⟩ : ∃ mn, m.length = mn := ⟨_, rfl⟩
  rw [hmn] at C5 ⊢
  clear hmn ml TL
  go_wp2_with fail
  have h6 := HS.out _ X4.out.below
  refine (WR.out _ h6.1 h6.2.2.2.2.2.2).mono ?_
  rintro e w7 ⟨S1, j, rfl, hr, hb⟩
  have HR := Lib.hid hr
  have X5 := Lib.hid (X4.out.call hb)
  clear X4 hb h6 hr WR
  go_wp2_with fail
  have h6 := HS.out _ X5.out.below
  refine (RWR.out _ h6.2.2.2.2.2.2).mono ?_
  rintro e w8 ⟨S2, j2, rfl, hr, hb⟩
  obtain ⟨es, rfl⟩ := HR.out.uniq hr
  obtain rfl := str_ext es
  have X6 := Lib.hid (X5.out.call hb)
  clear X5 hb h6 hr RWR HR es HS
  go_upto_region 9 with fail
  obtain ⟨b6, h6⟩ : ∃ b, w.heap.size = b := ⟨_, rfl⟩
  obtain ⟨b9, h9⟩ : ∃ b, w1.heap.size = b := ⟨_, rfl⟩
  obtain ⟨b11, h11⟩ : ∃ b, w3.heap.size = b := ⟨_, rfl⟩
  rw [h6, h9, h11] at X6
  rw [h6, h9, h11]
  have H6 := Lib.hid h6
  clear h6 h9 h11
  have X7 := Lib.hid (X6.out.call (Below.refl _ _).drew)
  clear X6
  have Q1 := Q1.out
  have QB := QB.out
  refine wp_region_held_drew (S := fun wx => TX w b6 b9 b11 A B m x1 x2 wx) (by kernel_rfl) X7.out (fun hHeld => ?_)
  clear X7
  refine wpAnyH_take (i := 0) (oi := ?oi0x1) (v := ?v0x1) ?hi0x1 (by kernel_rfl) (by kernel_rfl) (by kernel_rfl) ?hq0x1 ?hy0x1 hHeld ?rest0x1
  case hi0x1 => ((try simp only [List.getElem?_toArray, List.getElem?_cons_succ, List.getElem?_cons_zero]); (try rfl))
  case hq0x1 => exact fun _ _ _ h => h
  case hy0x1 => exact Or.inl ⟨by rfl, by intro w hSw; clear hSw; go_simp; try with_reducible rfl⟩
  try simp only [Act.put, List.setIfInBounds_toArray, List.set_cons_zero, List.set_cons_succ]
  refine wpAnyH_take (i := 2) (oi := ?oi2x2) (v := ?v2x2) ?hi2x2 (by kernel_rfl) (by kernel_rfl) (by kernel_rfl) ?hq2x2 ?hy2x2 hHeld ?rest2x2
  case hi2x2 => ((try simp only [List.getElem?_toArray, List.getElem?_cons_succ, List.getElem?_cons_zero]); (try rfl))
  case hq2x2 => exact fun _ _ _ h => h
  case hy2x2 => exact Or.inl ⟨by rfl, by intro w hSw; clear hSw; go_simp; try with_reducible rfl⟩
  try simp only [Act.put, List.setIfInBounds_toArray, List.set_cons_zero, List.set_cons_succ]
  refine wpAnyH_ready (rs := [1]) (by kernel_rfl) (by simp) ?_
  refine AllReadyH.cons rfl (fun K' hK => ?_) AllReadyH.nil
  have H1 := Lib.hid hHeld
  clear hHeld
  go_simp
  refine (C1.out _ H1.out.ky).mono ?_
  rintro e wx ⟨rfl, hb⟩
  replace H1 := Lib.hid (H1.out.call hb)
  refine hK.out _ _ H1.out (fun hHeld => ?_)
  clear hK H1 hb
  try simp only [Act.put, List.setIfInBounds_toArray, List.set_cons_zero, List.set_cons_succ]
  refine wpAnyH_ready (rs := [3]) (by kernel_rfl) (by simp) ?_
  refine AllReadyH.cons rfl (fun K' hK => ?_) AllReadyH.nil
  have H1 := Lib.hid hHeld
  clear hHeld
  go_simp
  refine (C2.out _ ).mono ?_
  rintro e wx ⟨rfl, hb⟩
  replace H1 := Lib.hid (H1.out.call hb)
  refine hK.out _ _ H1.out (fun hHeld => ?_)
  clear hK H1 hb
  try simp only [Act.put, List.setIfInBounds_toArray, List.set_cons_zero, List.set_cons_succ]
  refine wpAnyH_take (i := 4) (oi := ?oi4x3) (v := ?v4x3) ?hi4x3 (by kernel_rfl) (by kernel_rfl) (by kernel_rfl) ?hq4x3 ?hy4x3 hHeld ?rest4x3
  case hi4x3 => ((try simp only [List.getElem?_toArray, List.getElem?_cons_succ, List.getElem?_cons_zero]); (try rfl))
  case hq4x3 => exact fun _ _ _ h => h
  case hy4x3 => exact Or.inl ⟨by rfl, by intro w hSw; clear hSw; go_simp; try with_reducible rfl⟩
  try simp only [Act.put, List.setIfInBounds_toArray, List.set_cons_zero, List.set_cons_succ]
  refine wpAnyH_take (i := 5) (oi := ?oi5x4) (v := ?v5x4) ?hi5x4 (by kernel_rfl) (by kernel_rfl) (by kernel_rfl) ?hq5x4 ?hy5x4 hHeld ?rest5x4
  case hi5x4 => ((try simp only [List.getElem?_toArray, List.getElem?_cons_succ, List.getElem?_cons_zero]); (try rfl))
  case hq5x4 => exact fun _ _ _ h => h
  case hy5x4 => exact Or.inl ⟨by rfl, by intro w hSw; clear hSw; go_simp; try with_reducible rfl⟩
  try simp only [Act.put, List.setIfInBounds_toArray, List.set_cons_zero, List.set_cons_succ]
  refine wpAnyH_take (i := 6) (oi := ?oi6x) (v := ?v6x) ?hi6x (by kernel_rfl) (by kernel_rfl) (by kernel_rfl) ?hq6x ?hy6x hHeld ?rest6x
  case hi6x => ((try simp only [List.getElem?_toArray, List.getElem?_cons_succ, List.getElem?_cons_zero]); (try rfl))
  case hq6x => exact fun _ _ _ h => h
  case hy6x =>
    refine' yieldsIf_load_mid ?_ 23 (.tmp 6) ?_ b6 0 ?_ A _ ?_ Tryd.underlying23 ?_ ?_
    · rfl
    · rfl
    · rfl
    · exact fun _ h => h.r6
    · rfl
    · exact IA.out
  try simp only [Act.put, List.setIfInBounds_toArray, List.set_cons_zero, List.set_cons_succ]
  refine wpAnyH_take (i := 8) (oi := ?oi8x) (v := ?v8x) ?hi8x (by kernel_rfl) (by kernel_rfl) (by kernel_rfl) ?hq8x ?hy8x hHeld ?rest8x
  case hi8x => ((try simp only [List.getElem?_toArray, List.getElem?_cons_succ, List.getElem?_cons_zero]); (try rfl))
  case hq8x => exact fun _ _ _ h => h
  case hy8x =>
    refine' yieldsIf_load_mid ?_ 23 (.tmp 6) ?_ b6 0 ?_ A _ ?_ Tryd.underlying23 ?_ ?_
    · rfl
    · rfl
    · rfl
    · exact fun _ h => h.r6
    · rfl
    · exact IA.out
  try simp only [Act.put, List.setIfInBounds_toArray, List.set_cons_zero, List.set_cons_succ]
  refine wpAnyH_ready (rs := [7]) (by kernel_rfl) (by simp) ?_
  refine AllReadyH.cons rfl (fun K' hK => ?_) AllReadyH.nil
  have H1 := Lib.hid hHeld
  clear hHeld
  go_simp
  refine (C3.out _ H1.out.dg).mono ?_
  rintro e wx ⟨rfl, hb⟩
  replace H1 := Lib.hid (H1.out.call hb)
  refine hK.out _ _ H1.out (fun hHeld => ?_)
  clear hK H1 hb
  try simp only [Act.put, List.setIfInBounds_toArray, List.set_cons_zero, List.set_cons_succ]
  refine wpAnyH_ready (rs := [9]) (by kernel_rfl) (by simp) ?_
  refine AllReadyH.cons rfl (fun K' hK => ?_) AllReadyH.nil
  have H1 := Lib.hid hHeld
  clear hHeld
  go_simp
  refine (C4.out _ ).mono ?_
  rintro e wx ⟨rfl, hb⟩
  replace H1 := Lib.hid (H1.out.call hb)
  refine hK.out _ _ H1.out (fun hHeld => ?_)
  clear hK H1 hb
  try simp only [Act.put, List.setIfInBounds_toArray, List.set_cons_zero, List.set_cons_succ]
  refine wpAnyH_take (i := 10) (oi := ?oi10x5) (v := ?v10x5) ?hi10x5 (by kernel_rfl) (by kernel_rfl) (by kernel_rfl) ?hq10x5 ?hy10x5 hHeld ?rest10x5
  case hi10x5 => ((try simp only [List.getElem?_toArray, List.getElem?_cons_succ, List.getElem?_cons_zero]); (try rfl))
  case hq10x5 => exact fun _ _ _ h => h
  case hy10x5 => exact Or.inl ⟨by rfl, by intro w hSw; clear hSw; go_simp; try with_reducible rfl⟩
  try simp only [Act.put, List.setIfInBounds_toArray, List.set_cons_zero, List.set_cons_succ]
  refine wpAnyH_take (i := 11) (oi := ?oi11x6) (v := ?v11x6) ?hi11x6 (by kernel_rfl) (by kernel_rfl) (by kernel_rfl) ?hq11x6 ?hy11x6 hHeld ?rest11x6
  case hi11x6 => ((try simp only [List.getElem?_toArray, List.getElem?_cons_succ, List.getElem?_cons_zero]); (try rfl))
  case hq11x6 => exact fun _ _ _ h => h
  case hy11x6 => exact Or.inl ⟨by rfl, by intro w hSw; clear hSw; go_simp; try with_reducible rfl⟩
  try simp only [Act.put, List.setIfInBounds_toArray, List.set_cons_zero, List.set_cons_succ]
  refine wpAnyH_take (i := 12) (oi := ?oi12x7) (v := ?v12x7) ?hi12x7 (by kernel_rfl) (by kernel_rfl) (by kernel_rfl) ?hq12x7 ?hy12x7 hHeld ?rest12x7
  case hi12x7 => ((try simp only [List.getElem?_toArray, List.getElem?_cons_succ, List.getElem?_cons_zero]); (try rfl))
  case hq12x7 => exact fun _ _ _ h => h
  case hy12x7 => exact Or.inl ⟨by rfl, by intro w hSw; clear hSw; go_simp; try with_reducible rfl⟩
  try simp only [Act.put, List.setIfInBounds_toArray, List.set_cons_zero, List.set_cons_succ]
  refine wpAnyH_take (i := 13) (oi := ?oi13x) (v := ?v13x) ?hi13x (by kernel_rfl) (by kernel_rfl) (by kernel_rfl) ?hq13x ?hy13x hHeld ?rest13x
  case hi13x => ((try simp only [List.getElem?_toArray, List.getElem?_cons_succ, List.getElem?_cons_zero]); (try rfl))
  case hq13x => exact fun _ _ _ h => h
  case hy13x =>
    refine' yieldsIf_load_mid ?_ 23 (.tmp 9) ?_ b9 0 ?_ B _ ?_ Tryd.underlying23 ?_ ?_
    · rfl
    · rfl
    · rfl
    · exact fun _ h => h.r9
    · rfl
    · exact IB.out
  try simp only [Act.put, List.setIfInBounds_toArray, List.set_cons_zero, List.set_cons_succ]
  refine wpAnyH_take (i := 14) (oi := ?oi14x) (v := ?v14x) ?hi14x (by kernel_rfl) (by kernel_rfl) (by kernel_rfl) ?hq14x ?hy14x hHeld ?rest14x
  case hi14x => ((try simp only [List.getElem?_toArray, List.getElem?_cons_succ, List.getElem?_cons_zero]); (try rfl))
  case hq14x => exact fun _ _ _ h => h
  case hy14x =>
    refine' yieldsIf_load_mid ?_ 23 (.tmp 11) ?_ b11 0 ?_ B _ ?_ Tryd.underlying23 ?_ ?_
    · rfl
    · rfl
    · rfl
    · exact fun _ h => h.r11
    · rfl
    · exact IB.out
  try simp only [Act.put, List.setIfInBounds_toArray, List.set_cons_zero, List.set_cons_succ]
  refine wpAnyH_take (i := 15) (oi := ?oi15x8) (v := ?v15x8) ?hi15x8 (by kernel_rfl) (by kernel_rfl) (by kernel_rfl) ?hq15x8 ?hy15x8 hHeld ?rest15x8
  case hi15x8 => ((try simp only [List.getElem?_toArray, List.getElem?_cons_succ, List.getElem?_cons_zero]); (try rfl))
  case hq15x8 => exact fun _ _ _ h => h
  case hy15x8 => exact Or.inl ⟨by rfl, by intro w hSw; clear hSw; go_simp; try with_reducible rfl⟩
  try simp only [Act.put, List.setIfInBounds_toArray, List.set_cons_zero, List.set_cons_succ]
  refine wpAnyH_take (i := 16) (oi := ?oi16x9) (v := ?v16x9) ?hi16x9 (by kernel_rfl) (by kernel_rfl) (by kernel_rfl) ?hq16x9 ?hy16x9 hHeld ?rest16x9
  case hi16x9 => ((try simp only [List.getElem?_toArray, List.getElem?_cons_succ, List.getElem?_cons_zero]); (try rfl))
  case hq16x9 => exact fun _ _ _ h => h
  case hy16x9 => exact Or.inl ⟨by rfl, by intro w hSw; clear hSw; go_simp; try with_reducible rfl⟩
  try simp only [Act.put, List.setIfInBounds_toArray, List.set_cons_zero, List.set_cons_succ]
  refine wpAnyH_take (i := 17) (oi := ?oi17x10) (v := ?v17x10) ?hi17x10 (by kernel_rfl) (by kernel_rfl) (by kernel_rfl) ?hq17x10 ?hy17x10 hHeld ?rest17x10
  case hi17x10 => ((try simp only [List.getElem?_toArray, List.getElem?_cons_succ, List.getElem?_cons_zero]); (try rfl))
  case hq17x10 => exact fun _ _ _ h => h
  case hy17x10 => exact Or.inl ⟨by rfl, by intro w hSw; clear hSw; go_simp; try with_reducible rfl⟩
  try simp only [Act.put, List.setIfInBounds_toArray, List.set_cons_zero, List.set_cons_succ]
  refine wpAnyH_take (i := 18) (oi := ?oi18x11) (v := ?v18x11) ?hi18x11 (by kernel_rfl) (by kernel_rfl) (by kernel_rfl) ?hq18x11 ?hy18x11 hHeld ?rest18x11
  case hi18x11 => ((try simp only [List.getElem?_toArray, List.getElem?_cons_succ, List.getElem?_cons_zero]); (try rfl))
  case hq18x11 => exact fun _ _ _ h => h
  case hy18x11 => exact Or.inl ⟨by rfl, by intro w hSw; clear hSw; go_simp; try with_reducible rfl⟩
  try simp only [Act.put, List.setIfInBounds_toArray, List.set_cons_zero, List.set_cons_succ]
  refine wpAnyH_take (i := 19) (oi := ?oi19x12) (v := ?v19x12) ?hi19x12 (by kernel_rfl) (by kernel_rfl) (by kernel_rfl) ?hq19x12 ?hy19x12 hHeld ?rest19x12
  case hi19x12 => ((try simp only [List.getElem?_toArray, List.getElem?_cons_succ, List.getElem?_cons_zero]); (try rfl))
  case hq19x12 => exact fun _ _ _ h => h
  case hy19x12 => exact Or.inl ⟨by rfl, by intro w hSw; clear hSw; go_simp; try with_reducible rfl⟩
  try simp only [Act.put, List.setIfInBounds_toArray, List.set_cons_zero, List.set_cons_succ]
  refine wpAnyH_take (i := 20) (oi := ?oi20x13) (v := ?v20x13) ?hi20x13 (by kernel_rfl) (by kernel_rfl) (by kernel_rfl) ?hq20x13 ?hy20x13 hHeld ?rest20x13
  case hi20x13 => ((try simp only [List.getElem?_toArray, List.getElem?_cons_succ, List.getElem?_cons_zero]); (try rfl))
  case hq20x13 => exact fun _ _ _ h => h
  case hy20x13 => exact Or.inl ⟨by rfl, by intro w hSw; clear hSw; go_simp; try with_reducible rfl⟩
  try simp only [Act.put, List.setIfInBounds_toArray, List.set_cons_zero, List.set_cons_succ]
  refine wpAnyH_take (i := 21) (oi := ?oi21x14) (v := ?v21x14) ?hi21x14 (by kernel_rfl) (by kernel_rfl) (by kernel_rfl) ?hq21x14 ?hy21x14 hHeld ?rest21x14
  case hi21x14 => ((try simp only [List.getElem?_toArray, List.getElem?_cons_succ, List.getElem?_cons_zero]); (try rfl))
  case hq21x14 => exact fun _ _ _ h => h
  case hy21x14 => exact Or.inl ⟨by rfl, by intro w hSw; clear hSw; go_simp; try with_reducible rfl⟩
  try simp only [Act.put, List.setIfInBounds_toArray, List.set_cons_zero, List.set_cons_succ]
  refine wpAnyH_take (i := 22) (oi := ?oi22x15) (v := ?v22x15) ?hi22x15 (by kernel_rfl) (by kernel_rfl) (by kernel_rfl) ?hq22x15 ?hy22x15 hHeld ?rest22x15
  case hi22x15 => ((try simp only [List.getElem?_toArray, List.getElem?_cons_succ, List.getElem?_cons_zero]); (try rfl))
  case hq22x15 => exact fun _ _ _ h => h
  case hy22x15 => exact Or.inl ⟨by rfl, by intro w hSw; clear hSw; go_simp; try with_reducible rfl⟩
  try simp only [Act.put, List.setIfInBounds_toArray, List.set_cons_zero, List.set_cons_succ]
  refine wpAnyH_take (i := 23) (oi := ?oi23x16) (v := ?v23x16) ?hi23x16 (by kernel_rfl) (by kernel_rfl) (by kernel_rfl) ?hq23x16 ?hy23x16 hHeld ?rest23x16
  case hi23x16 => ((try simp only [List.getElem?_toArray, List.getElem?_cons_succ, List.getElem?_cons_zero]); (try rfl))
  case hq23x16 => exact fun _ _ _ h => h
  case hy23x16 => exact Or.inl ⟨by rfl, by intro w hSw; clear hSw; go_simp; try with_reducible rfl⟩
  try simp only [Act.put, List.setIfInBounds_toArray, List.set_cons_zero, List.set_cons_succ]
  refine wpAnyH_take (i := 24) (oi := ?oi24x17) (v := ?v24x17) ?hi24x17 (by kernel_rfl) (by kernel_rfl) (by kernel_rfl) ?hq24x17 ?hy24x17 hHeld ?rest24x17
  case hi24x17 => ((try simp only [List.getElem?_toArray, List.getElem?_cons_succ, List.getElem?_cons_zero]); (try rfl))
  case hq24x17 => exact fun _ _ _ h => h
  case hy24x17 => exact Or.inl ⟨by rfl, by intro w hSw; clear hSw; go_simp; try with_reducible rfl⟩
  try simp only [Act.put, List.setIfInBounds_toArray, List.set_cons_zero, List.set_cons_succ]
  refine wpAnyH_ready (rs := [25]) (by kernel_rfl) (by simp) ?_
  refine AllReadyH.cons rfl (fun K' hK => ?_) AllReadyH.nil
  have H1 := Lib.hid hHeld
  clear hHeld
  go_simp
  refine (C5.out _ H1.out.c1 H1.out.c2).mono ?_
  rintro e wx ⟨rfl, hb⟩
  replace H1 := Lib.hid (H1.out.call hb)
  refine hK.out _ _ H1.out (fun hHeld => ?_)
  clear hK H1 hb
  try simp only [Act.put, List.setIfInBounds_toArray, List.set_cons_zero, List.set_cons_succ]
  refine wpAnyH_take (i := 26) (oi := ?oi26x18) (v := ?v26x18) ?hi26x18 (by kernel_rfl) (by kernel_rfl) (by kernel_rfl) ?hq26x18 ?hy26x18 hHeld ?rest26x18
  case hi26x18 => ((try simp only [List.getElem?_toArray, List.getElem?_cons_succ, List.getElem?_cons_zero]); (try rfl))
  case hq26x18 => exact fun _ _ _ h => h
  case hy26x18 => exact Or.inl ⟨by rfl, by intro w hSw; clear hSw; go_simp; try with_reducible rfl⟩
  try simp only [Act.put, List.setIfInBounds_toArray, List.set_cons_zero, List.set_cons_succ]
  refine wpAnyH_take (i := 27) (oi := ?oi27x19) (v := ?v27x19) ?hi27x19 (by kernel_rfl) (by kernel_rfl) (by kernel_rfl) ?hq27x19 ?hy27x19 hHeld ?rest27x19
  case hi27x19 => ((try simp only [List.getElem?_toArray, List.getElem?_cons_succ, List.getElem?_cons_zero]); (try rfl))
  case hq27x19 => exact fun _ _ _ h => h
  case hy27x19 => exact Or.inl ⟨by rfl, by intro w hSw; clear hSw; go_simp; try with_reducible rfl⟩
  try simp only [Act.put, List.setIfInBounds_toArray, List.set_cons_zero, List.set_cons_succ]
  refine wpAnyH_take (i := 28) (oi := ?oi28x20) (v := ?v28x20) ?hi28x20 (by kernel_rfl) (by kernel_rfl) (by kernel_rfl) ?hq28x20 ?hy28x20 hHeld ?rest28x20
  case hi28x20 => ((try simp only [List.getElem?_toArray, List.getElem?_cons_succ, List.getElem?_cons_zero]); (try rfl))
  case hq28x20 => exact fun _ _ _ h => h
  case hy28x20 => exact Or.inl ⟨by rfl, by intro w hSw; clear hSw; go_simp; try with_reducible rfl⟩
  try simp only [Act.put, List.setIfInBounds_toArray, List.set_cons_zero, List.set_cons_succ]
  refine wpAnyH_take (i := 29) (oi := ?oi29x21) (v := ?v29x21) ?hi29x21 (by kernel_rfl) (by kernel_rfl) (by kernel_rfl) ?hq29x21 ?hy29x21 hHeld ?rest29x21
  case hi29x21 => ((try simp only [List.getElem?_toArray, List.getElem?_cons_succ, List.getElem?_cons_zero]); (try rfl))
  case hq29x21 => exact fun _ _ _ h => h
  case hy29x21 => exact Or.inl ⟨by rfl, by intro w hSw; clear hSw; go_simp; try with_reducible rfl⟩
  try simp only [Act.put, List.setIfInBounds_toArray, List.set_cons_zero, List.set_cons_succ]
  refine wpAnyH_take (i := 30) (oi := ?oi30x22) (v := ?v30x22) ?hi30x22 (by kernel_rfl) (by kernel_rfl) (by kernel_rfl) ?hq30x22 ?hy30x22 hHeld ?rest30x22
  case hi30x22 => ((try simp only [List.getElem?_toArray, List.getElem?_cons_succ, List.getElem?_cons_zero]); (try rfl))
  case hq30x22 => exact fun _ _ _ h => h
  case hy30x22 => exact Or.inl ⟨by rfl, by intro w hSw; clear hSw; go_simp; try with_reducible rfl⟩
  try simp only [Act.put, List.setIfInBounds_toArray, List.set_cons_zero, List.set_cons_succ]
  refine wpAnyH_take (i := 31) (oi := ?oi31x23) (v := ?v31x23) ?hi31x23 (by kernel_rfl) (by kernel_rfl) (by kernel_rfl) ?hq31x23 ?hy31x23 hHeld ?rest31x23
  case hi31x23 => ((try simp only [List.getElem?_toArray, List.getElem?_cons_succ, List.getElem?_cons_zero]); (try rfl))
  case hq31x23 => exact fun _ _ _ h => h
  case hy31x23 => exact Or.inl ⟨by rfl, by intro w hSw; clear hSw; go_simp; try with_reducible rfl⟩
  try simp only [Act.put, List.setIfInBounds_toArray, List.set_cons_zero, List.set_cons_succ]
  refine wpAnyH_take (i := 32) (oi := ?oi32x24) (v := ?v32x24) ?hi32x24 (by kernel_rfl) (by kernel_rfl) (by kernel_rfl) ?hq32x24 ?hy32x24 hHeld ?rest32x24
  case hi32x24 => ((try simp only [List.getElem?_toArray, List.getElem?_cons_succ, List.getElem?_cons_zero]); (try rfl))
  case hq32x24 => exact fun _ _ _ h => h
  case hy32x24 => exact Or.inl ⟨by rfl, by intro w hSw; clear hSw; go_simp; try with_reducible rfl⟩
  try simp only [Act.put, List.setIfInBounds_toArray, List.set_cons_zero, List.set_cons_succ]
  refine wpAnyH_take (i := 33) (oi := ?oi33x25) (v := ?v33x25) ?hi33x25 (by kernel_rfl) (by kernel_rfl) (by kernel_rfl) ?hq33x25 ?hy33x25 hHeld ?rest33x25
  case hi33x25 => ((try simp only [List.getElem?_toArray, List.getElem?_cons_succ, List.getElem?_cons_zero]); (try rfl))
  case hq33x25 => exact fun _ _ _ h => h
  case hy33x25 => exact Or.inl ⟨by rfl, by intro w hSw; clear hSw; go_simp; try with_reducible rfl⟩
  try simp only [Act.put, List.setIfInBounds_toArray, List.set_cons_zero, List.set_cons_succ]
  refine wpAnyH_take (i := 34) (oi := ?oi34x26) (v := ?v34x26) ?hi34x26 (by kernel_rfl) (by kernel_rfl) (by kernel_rfl) ?hq34x26 ?hy34x26 hHeld ?rest34x26
  case hi34x26 => ((try simp only [List.getElem?_toArray, List.getElem?_cons_succ, List.getElem?_cons_zero]); (try rfl))
  case hq34x26 => exact fun _ _ _ h => h
  case hy34x26 => exact Or.inl ⟨by rfl, by intro w hSw; clear hSw; go_simp; try with_reducible rfl⟩
  try simp only [Act.put, List.setIfInBounds_toArray, List.set_cons_zero, List.set_cons_succ]
  refine wpAnyH_take (i := 35) (oi := ?oi35x27) (v := ?v35x27) ?hi35x27 (by kernel_rfl) (by kernel_rfl) (by kernel_rfl) ?hq35x27 ?hy35x27 hHeld ?rest35x27
  case hi35x27 => ((try simp only [List.getElem?_toArray, List.getElem?_cons_succ, List.getElem?_cons_zero]); (try rfl))
  case hq35x27 => exact fun _ _ _ h => h
  case hy35x27 => exact Or.inl ⟨by rfl, by intro w hSw; clear hSw; go_simp; try with_reducible rfl⟩
  try simp only [Act.put, List.setIfInBounds_toArray, List.set_cons_zero, List.set_cons_succ]
  refine wpAnyH_take (i := 36) (oi := ?oi36x28) (v := ?v36x28) ?hi36x28 (by kernel_rfl) (by kernel_rfl) (by kernel_rfl) ?hq36x28 ?hy36x28 hHeld ?rest36x28
  case hi36x28 => ((try simp only [List.getElem?_toArray, List.getElem?_cons_succ, List.getElem?_cons_zero]); (try rfl))
  case hq36x28 => exact fun _ _ _ h => h
  case hy36x28 => exact Or.inl ⟨by rfl, by intro w hSw; clear hSw; go_simp; try with_reducible rfl⟩
  try simp only [Act.put, List.setIfInBounds_toArray, List.set_cons_zero, List.set_cons_succ]
  refine wpAnyH_take (i := 37) (oi := ?oi37x29) (v := ?v37x29) ?hi37x29 (by kernel_rfl) (by kernel_rfl) (by kernel_rfl) ?hq37x29 ?hy37x29 hHeld ?rest37x29
  case hi37x29 => ((try simp only [List.getElem?_toArray, List.getElem?_cons_succ, List.getElem?_cons_zero]); (try rfl))
  case hq37x29 => exact fun _ _ _ h => h
  case hy37x29 => exact Or.inl ⟨by rfl, by intro w hSw; clear hSw; go_simp; try with_reducible rfl⟩
  try simp only [Act.put, List.setIfInBounds_toArray, List.set_cons_zero, List.set_cons_succ]
  refine wpAnyH_take (i := 38) (oi := ?oi38x30) (v := ?v38x30) ?hi38x30 (by kernel_rfl) (by kernel_rfl) (by kernel_rfl) ?hq38x30 ?hy38x30 hHeld ?rest38x30
  case hi38x30 => ((try simp only [List.getElem?_toArray, List.getElem?_cons_succ, List.getElem?_cons_zero]); (try rfl))
  case hq38x30 => exact fun _ _ _ h => h
  case hy38x30 => exact Or.inl ⟨by rfl, by intro w hSw; clear hSw; go_simp; try with_reducible rfl⟩
  try simp only [Act.put, List.setIfInBounds_toArray, List.set_cons_zero, List.set_cons_succ]
  refine wpAnyH_take (i := 39) (oi := ?oi39x31) (v := ?v39x31) ?hi39x31 (by kernel_rfl) (by kernel_rfl) (by kernel_rfl) ?hq39x31 ?hy39x31 hHeld ?rest39x31
  case hi39x31 => ((try simp only [List.getElem?_toArray, List.getElem?_cons_succ, List.getElem?_cons_zero]); (try rfl))
  case hq39x31 => exact fun _ _ _ h => h
  case hy39x31 => exact Or.inl ⟨by rfl, by intro w hSw; clear hSw; go_simp; try with_reducible rfl⟩
  try simp only [Act.put, List.setIfInBounds_toArray, List.set_cons_zero, List.set_cons_succ]
  refine wpAnyH_take (i := 40) (oi := ?oi40x32) (v := ?v40x32) ?hi40x32 (by kernel_rfl) (by kernel_rfl) (by kernel_rfl) ?hq40x32 ?hy40x32 hHeld ?rest40x32
  case hi40x32 => ((try simp only [List.getElem?_toArray, List.getElem?_cons_succ, List.getElem?_cons_zero]); (try rfl))
  case hq40x32 => exact fun _ _ _ h => h
  case hy40x32 => exact Or.inl ⟨by rfl, by intro w hSw; clear hSw; go_simp; try with_reducible rfl⟩
  try simp only [Act.put, List.setIfInBounds_toArray, List.set_cons_zero, List.set_cons_succ]
  refine wpAnyH_take (i := 41) (oi := ?oi41x33) (v := ?v41x33) ?hi41x33 (by kernel_rfl) (by kernel_rfl) (by kernel_rfl) ?hq41x33 ?hy41x33 hHeld ?rest41x33
  case hi41x33 => ((try simp only [List.getElem?_toArray, List.getElem?_cons_succ, List.getElem?_cons_zero]); (try rfl))
  case hq41x33 => exact fun _ _ _ h => h
  case hy41x33 => exact Or.inl ⟨by rfl, by intro w hSw; clear hSw; go_simp; try with_reducible rfl⟩
  try simp only [Act.put, List.setIfInBounds_toArray, List.set_cons_zero, List.set_cons_succ]
  refine wpAnyH_take (i := 42) (oi := ?oi42x34) (v := ?v42x34) ?hi42x34 (by kernel_rfl) (by kernel_rfl) (by kernel_rfl) ?hq42x34 ?hy42x34 hHeld ?rest42x34
  case hi42x34 => ((try simp only [List.getElem?_toArray, List.getElem?_cons_succ, List.getElem?_cons_zero]); (try rfl))
  case hq42x34 => exact fun _ _ _ h => h
  case hy42x34 => exact Or.inl ⟨by rfl, by intro w hSw; clear hSw; go_simp; try with_reducible rfl⟩
  try simp only [Act.put, List.setIfInBounds_toArray, List.set_cons_zero, List.set_cons_succ]
  refine wpAnyH_done (by kernel_rfl) ?_ _
  have Z := hHeld.below
  clear hHeld
  go_wp2_with fail
  go_ret
  exact ⟨rfl, Z⟩
end Cgw
end Go.Proofs.YtafeigpmldgifaaDoor
/-
  An argument that is a list of observations, opened.
-/
namespace Go.Proofs.YtafeigpmldgifaaDoor
namespace Ow
open Go.RowKit Lw Go.Proofs.YtafeigpmldgifaaDoor.Op Go.ChangeShapes Go.WideShapes Go.Deep

section
variable {H : Type} {enc : TypeId × Value → H} {P : Program} {w : World} {base : Nat} {spare : Nat → Bool} {held : Bool}
theorem elem_fields {e : TypeId} {fs : Array Field} {fuel : Nat} {a : Addr} {cs : List Value} {x : DataW H × List MemPlace} (he : P.underlying e = some (.struct fs)) (hone : oneCellFields P fs = true) (hC : P.cellsOf e = fs.size)
    (hc : w.cells? base a (P.cellsOf e) = some cs) (ht : DataW.trod enc P w base spare held fuel e cs = some x) :
    ∃ n, ∀ j f, fs[j]? = some f → ∃ v y, w.cell? (a.add j) = some v ∧ DataW.trod enc P w base spare held n f.type [v] = some y := by
  rw [hC] at hc
  obtain ⟨ys, n, _, hy, hlen, hyl, hf⟩ := DataW.trod_struct he ht
  obtain ⟨_, hcl, hat⟩ := World.cells?_some hc
  refine ⟨n, fun j f hj => ?_⟩
  obtain ⟨ho, hk⟩ := hone_of hone j f hj
  have hjl : j < fs.size := (Array.getElem?_eq_some_iff.1 hj).1
  have h1 := hf j f hj
  rw [ho, hk, List.drop_eq_getElem_cons (show j < cs.length by omega)] at h1
  have hys : ys[j]? = some (ys[j]'(by omega)) := List.getElem?_eq_getElem (by omega)
  exact ⟨_, _, (hat j hjl).trans (List.getElem?_eq_getElem (by omega)), h1.trans hys⟩
end
theorem block_lt {w : World} {a : Addr} {v : Value} (h : w.cell? a = some v) : a.block < w.heap.size ∧ a.spot = none := by
  unfold World.cell? at h
  split at h
  · rename_i c _ _ hh
    refine ⟨(Array.getElem?_eq_some_iff.1 hh).1, ?_⟩
    cases hs : a.spot with
    | none => rfl
    | some s => simp [hs] at h
  · cases h
theorem one_of {a b : Value} (h : [a] = [b]) : a = b := by injection h
theorem add_none {b off k : Nat} : (⟨b, off, none⟩ : Addr).add k = ⟨b, off + k, none⟩ := Addr.add_mid b off k
end Ow
end Go.Proofs.YtafeigpmldgifaaDoor
/-
  Arguments that are lists of changes, or digests, opened; what the row of ArchiveTexts says of memory.
-/
namespace Go.Proofs.YtafeigpmldgifaaDoor
namespace Cgw
open Go.RowKit Lw Go.Proofs.YtafeigpmldgifaaDoor.Dp Go.Proofs.YtafeigpmldgifaaDoor.Cgp Go.Proofs.YtafeigpmldgifaaDoor.Arw Go.Proofs.YtafeigpmldgifaaDoor.Ow Go.ChangeShapes Go.WideShapes Go.Deep

section
variable {H : Type} {enc : TypeId × Value → H} {w : World} {base : Nat} {spare : Nat → Bool} {held : Bool}
theorem cells_lt {a : Addr} {n : Nat} {cs : List Value} (hn : 0 < n) (h : w.cells? base a n = some cs) : a.block < w.heap.size ∧ a.spot = none := by
  obtain ⟨_, hl, hat⟩ := World.cells?_some h
  have h0 := hat 0 hn
  rw [List.getElem?_eq_getElem (by omega)] at h0
  have e : a.add 0 = a := by simp [Addr.add]
  rw [e] at h0
  exact block_lt h0
/-- A slice of whatever elements. -/
theorem open_rows {α : Type} [Inhabited α] {t e : TypeId} {fuel : Nat} {x : Option Addr} {len cap : Nat} {y : DataW H × List MemPlace} (S : Nat) (hS : Tryd.prog.cellsOf e = S) (hp : 0 < S) (ht : Tryd.prog.underlying t = some (.slice e)) (Pr : Nat → Nat → α → Prop)
    (elem : ∀ b off m cs z, w.cells? base ⟨b, off, none⟩ S = some cs → DataW.trod enc Tryd.prog w base spare held m e cs = some z → ∃ o, Pr b off o)
    (h : DataW.trod enc Tryd.prog w base spare held fuel t [.slice x len cap] = some y) :
    len ≤ 9223372036854775807 ∧ ∃ l : List α, l.length = len ∧ (l = [] ∨ ∃ b off, x = some ⟨b, off, none⟩ ∧ b < w.heap.size ∧ ∀ i (h : i < l.length), Pr b (off + i * S) (l[i]'h)) := by
  rcases open_slice ht h with ⟨hc, _⟩ | ⟨a, ln, cp, m, n, D, Pl, hcs, hb, hl, hmx, hmm, hx, hi⟩
  · have := one_of hc
    cases this
    exact ⟨by omega, [], rfl, Or.inl rfl⟩
  · have := one_of hcs
    cases this
    refine ⟨by unfold maxLen at hmx; omega, ?_⟩
    rw [hS] at hi
    by_cases h0 : len = 0
    · subst h0
      exact ⟨[], rfl, Or.inl rfl⟩
    · have hml : len ≤ m := by rw [hmm]; split <;> omega
      obtain ⟨b, off, spot⟩ := a
      obtain ⟨cs0, hc0, ht0⟩ := hi 0 (by omega)
      have lt0 := cells_lt hp hc0
      have hsp : spot = none := by
        have := lt0.2
        simpa [Addr.add] using this
      have hlt : b < w.heap.size := by
        have := lt0.1
        simpa [Addr.add] using this
      subst hsp
      have key : ∀ k, ∃ o : α, k < len → Pr b (off + k * S) o := fun k => by
        by_cases hk : k < len
        · obtain ⟨cs', hc', ht'⟩ := hi k (by omega)
          rw [add_none] at hc'
          obtain ⟨o, ho⟩ := elem b (off + k * S) n cs' _ hc' ht'
          exact ⟨o, fun _ => ho⟩
        · exact ⟨default, fun g => absurd g hk⟩
      obtain ⟨R, hR⟩ := Classical.axiomOfChoice key
      refine ⟨(List.range len).map R, by simp, Or.inr ⟨b, off, rfl, hlt, fun i hi => ?_⟩⟩
      have hi' : i < len := by simpa using hi
      rw [List.getElem_map, List.getElem_range]
      exact hR i hi'
theorem field_of {fs : Array Field} {n : Nat} {cs : List Value} {xs : List (DataW H × List MemPlace)} (hf : ∀ (i : Nat) (f : Field), fs[i]? = some f → DataW.trod enc Tryd.prog w base spare held n f.type ((cs.drop f.offset).take (Tryd.prog.cellsOf f.type)) = xs[i]?)
    (i ty off cnt : Nat) (f : Field) (hi : fs[i]? = some f) (hty : f.type = ty) (ho : f.offset = off) (hc : Tryd.prog.cellsOf ty = cnt) (hx : i < xs.length) : DataW.trod enc Tryd.prog w base spare held n ty ((cs.drop off).take cnt) = some (xs[i]'hx) := by
  have := hf i f hi
  rw [hty, ho, hc, List.getElem?_eq_getElem hx] at this
  exact this
instance : Inhabited Cg := ⟨zeroC⟩
theorem dg_vals {n : Nat} {v0 v1 v2 v3 v4 : Value} {x : DataW H × List MemPlace} (ht : DataW.trod enc Tryd.prog w base spare held n 50 [v0, v1, v2, v3, v4] = some x) :
    ∃ d : Dg, [v0, v1, v2, v3, v4] = Dw.desigC d.n d.y d.h d.s d.c ∧ (0 ≤ d.h ∧ d.h < 256) ∧ (0 ≤ d.s ∧ d.s < 256) := by
  obtain ⟨us, n2, _, _, _, hul, hu⟩ := DataW.trod_struct Tryd.underlying50 ht
  have i0 : DataW.trod enc Tryd.prog w base spare held n2 3 [v0] = some (us[0]'(by rw [hul]; decide)) := field_of hu 0 _ 0 1 _ rfl rfl rfl (by kernel_rfl) (by rw [hul]; decide)
  have i1 : DataW.trod enc Tryd.prog w base spare held n2 3 [v1] = some (us[1]'(by rw [hul]; decide)) := field_of hu 1 _ 1 1 _ rfl rfl rfl (by kernel_rfl) (by rw [hul]; decide)
  have i2 : DataW.trod enc Tryd.prog w base spare held n2 5 [v2] = some (us[2]'(by rw [hul]; decide)) := field_of hu 2 _ 2 1 _ rfl rfl rfl (by kernel_rfl) (by rw [hul]; decide)
  have i3 : DataW.trod enc Tryd.prog w base spare held n2 5 [v3] = some (us[3]'(by rw [hul]; decide)) := field_of hu 3 _ 3 1 _ rfl rfl rfl (by kernel_rfl) (by rw [hul]; decide)
  have i4 : DataW.trod enc Tryd.prog w base spare held n2 3 [v4] = some (us[4]'(by rw [hul]; decide)) := field_of hu 4 _ 4 1 _ rfl rfl rfl (by kernel_rfl) (by rw [hul]; decide)
  obtain ⟨a0, e0, _, w0⟩ := DataW.trod_int Tryd.underlying3 i0
  obtain ⟨a1, e1, _, w1⟩ := DataW.trod_int Tryd.underlying3 i1
  obtain ⟨a2, e2, _, w2⟩ := DataW.trod_int Tryd.underlying5 i2
  obtain ⟨a3, e3, _, w3⟩ := DataW.trod_int Tryd.underlying5 i3
  obtain ⟨a4, e4, _, w4⟩ := DataW.trod_int Tryd.underlying3 i4
  obtain rfl : v0 = _ := one_of e0
  obtain rfl : v1 = _ := one_of e1
  obtain rfl : v2 = _ := one_of e2
  obtain rfl : v3 = _ := one_of e3
  obtain rfl : v4 = _ := one_of e4
  have b2 := bounds_u8 w2
  have b3 := bounds_u8 w3
  exact ⟨⟨a0, a1, a2, a3, a4⟩, rfl, ⟨b2.1, by show a2 < 256; omega⟩, b3.1, by show a3 < 256; omega⟩
theorem cg_elem {m b off : Nat} {cs : List Value} {x : DataW H × List MemPlace}
    (hc : w.cells? base ⟨b, off, none⟩ 12 = some cs) (ht : DataW.trod enc Tryd.prog w base spare held m 52 cs = some x) : ∃ c : Cg, w.rangeAt b off (cgC c) ∧ CB c := by
  obtain ⟨_, hl, hat⟩ := World.cells?_some hc
  match cs, hl with
  | [v0, v1, v2, v3, v4, v5, v6, v7, v8, v9, v10, v11], _ =>
    obtain ⟨ys, n, _, _, _, hyl, hf⟩ := DataW.trod_struct Tryd.underlying52 ht
    have g0 : DataW.trod enc Tryd.prog w base spare held n 5 [v0] = some (ys[0]'(by rw [hyl]; decide)) := field_of hf 0 _ 0 1 _ rfl rfl rfl (by kernel_rfl) (by rw [hyl]; decide)
    have g1 : DataW.trod enc Tryd.prog w base spare held n 50 [v1, v2, v3, v4, v5] = some (ys[1]'(by rw [hyl]; decide)) := field_of hf 1 _ 1 5 _ rfl rfl rfl (by kernel_rfl) (by rw [hyl]; decide)
    have g2 : DataW.trod enc Tryd.prog w base spare held n 50 [v6, v7, v8, v9, v10] = some (ys[2]'(by rw [hyl]; decide)) := field_of hf 2 _ 6 5 _ rfl rfl rfl (by kernel_rfl) (by rw [hyl]; decide)
    have g3 : DataW.trod enc Tryd.prog w base spare held n 3 [v11] = some (ys[3]'(by rw [hyl]; decide)) := field_of hf 3 _ 11 1 _ rfl rfl rfl (by kernel_rfl) (by rw [hyl]; decide)
    obtain ⟨k, e0, _, w0⟩ := DataW.trod_int Tryd.underlying5 g0
    obtain ⟨nn, e3, _, w3⟩ := DataW.trod_int Tryd.underlying3 g3
    obtain ⟨a, ea, a1, a2⟩ := dg_vals g1
    obtain ⟨d, ed, d1, d2⟩ := dg_vals g2
    obtain rfl : v0 = _ := one_of e0
    obtain rfl : v11 = _ := one_of e3
    have b0 := bounds_u8 w0
    have b3 := bounds_i64 w3
    refine ⟨⟨k, a, d, nn⟩, fun j v hv => ?_, ⟨b0.1, (show k < 256 by omega), a1, a2, d1, d2, b3.1, b3.2⟩⟩
    have ec : cgC ⟨k, a, d, nn⟩ = [.int .u8 k, v1, v2, v3, v4, v5, v6, v7, v8, v9, v10, .int .i64 nn] := by
      have h1 : cgC ⟨k, a, d, nn⟩ = [.int .u8 k] ++ (Dw.desigC a.n a.y a.h a.s a.c ++ (Dw.desigC d.n d.y d.h d.s d.c ++ [.int .i64 nn])) := rfl
      rw [h1, ← ea, ← ed]
      rfl
    have hj : j < 12 := (List.getElem?_eq_some_iff.1 hv).1
    have := hat j hj
    rw [add_none] at this
    rw [this, ← hv, ec]
theorem cg_list {fuel : Nat} {x : Option Addr} {len cap : Nat} {y : DataW H × List MemPlace} (h : DataW.trod enc Tryd.prog w base spare held fuel 24 [.slice x len cap] = some y) :
    len ≤ 9223372036854775807 ∧ ∃ l : List Cg, l.length = len ∧ ChA w x l ∧ ∀ c ∈ l, CB c := by
  obtain ⟨hm, l, hl, hx⟩ := open_rows 12 (by kernel_rfl) (by omega) Tryd.underlying24 (fun b off c => w.rangeAt b off (cgC c) ∧ CB c) (fun b off m cs z h1 h2 => cg_elem h1 h2) h
  refine ⟨hm, l, hl, ?_, fun d hd => ?_⟩
  · rcases hx with h | ⟨b, off, h1, h2, h3⟩
    · exact Or.inl h
    · exact Or.inr ⟨b, off, h1, h2, fun i hi => (h3 i hi).1⟩
  · obtain ⟨i, hi, rfl⟩ := List.getElem_of_mem hd
    rcases hx with h | ⟨b, off, h1, h2, h3⟩
    · subst h; exact absurd hi (Nat.not_lt_zero _)
    · exact (h3 i hi).2
set_option maxRecDepth 100000 in
/-- A digest by value. -/
theorem dig_arg {r : Reach} {b0 : Nat} {v : Value} {d : DataW H} {p : List MemPlace} (hv : Value.okWide Tryd.prog w r b0 23 v) (h : DataW.Trod enc Tryd.prog w base spare held 23 v d p) :
    ∃ D : List Nat, v = digV D ∧ D.length = 32 ∧ ∀ x ∈ D, x < 256 := by
  have hu := Tryd.underlying23
  simp only [Value.okWide, hu] at hv
  obtain ⟨cs, rfl, hsz, _⟩ := hv
  rw [show Tryd.prog.cellsOf 23 = 32 by kernel_rfl] at hsz
  obtain ⟨fuel, hf⟩ := h
  obtain ⟨xs, m, _, _, _, hxl, hel⟩ := DataW.trod_array hu hf
  rw [show Tryd.prog.cellsOf 5 = 1 by kernel_rfl] at hel
  have key : ∀ i, ∃ n : Nat, i < 32 → cs[i]? = some (.int .u8 (n : Int)) ∧ n < 256 := fun i => by
    by_cases hi : i < 32
    · have h1 := hel i hi
      rw [List.getElem?_eq_getElem (by omega : i < xs.length), Nat.mul_one] at h1
      obtain ⟨a, e, _, wf⟩ := DataW.trod_int Tryd.underlying5 h1
      have hl : i < cs.toList.length := by rw [Array.length_toList]; omega
      have e2 : (cs.toList.drop i).take 1 = [cs.toList[i]'hl] := by rw [List.drop_eq_getElem_cons hl]; rfl
      have e3 : (cs.toList.drop i).take 1 = [.int .u8 a] := e
      rw [e2] at e3
      have b := bounds_u8 wf
      obtain ⟨n, rfl⟩ := Int.eq_ofNat_of_zero_le b.1
      refine ⟨n, fun _ => ⟨?_, by omega⟩⟩
      rw [← Array.getElem?_toList, List.getElem?_eq_getElem hl, one_of e3]
    · exact ⟨0, fun g => absurd g hi⟩
  obtain ⟨R, hR⟩ := Classical.axiomOfChoice key
  obtain ⟨n, hn⟩ : ∃ n, n = 32 := ⟨_, rfl⟩
  rw [← hn] at hsz hR ⊢
  obtain ⟨D, hD⟩ : ∃ D, (List.range n).map R = D := ⟨_, rfl⟩
  have e : cs = (D.map fun (x : Nat) => Value.int .u8 (x : Int)).toArray := by
    apply Array.ext'
    apply List.ext_getElem?
    intro i
    by_cases hi : i < n
    · rw [Array.getElem?_toList, (hR i hi).1, List.toList_toArray, List.getElem?_map, ← hD, List.getElem?_map, List.getElem?_range hi]
      rfl
    · rw [Array.getElem?_toList, Array.getElem?_eq_none (by omega), List.toList_toArray, List.getElem?_eq_none (by rw [← hD]; simp; omega)]
  refine ⟨D, congrArg Value.agg e, by rw [← hD]; simp, fun x hx => ?_⟩
  rw [← hD] at hx
  obtain ⟨i, hi, rfl⟩ := List.mem_map.1 hx
  exact (hR i (List.mem_range.1 hi)).2
end
theorem int_of_shape {P : Program} {w : World} {g : Nat} {t : TypeId} {k : IntKind} {zero : Array Value} (h : w.ShapedOpen P) (hg : g < P.globals.size)
    (h0 : ((begin P (fun _ _ => 0) default).world.heap[g]?).bind Obj.row? = some (zero, t)) (hz : zero.size = 1)
    (hb : P.buildable t = true) (hc : P.cellTypes P.depth t = some [t]) (hu : P.underlying t = some (.int k)) : ∃ n, w.cell? ⟨g, 0, none⟩ = some (.int k n) := by
  obtain ⟨cs, hh, hs, hr⟩ := h.1 g zero t hg h0
  obtain ⟨ts, hts, _, hall⟩ := hr hb
  rw [hc] at hts
  cases hts
  have h1 : 0 < cs.size := by omega
  obtain ⟨u, hu', hok⟩ := hall 0 cs[0] (by simp [h1])
  have : u = t := by simpa using hu'.symm
  subst this
  have hcell : w.cell? ⟨g, 0, none⟩ = some cs[0] := by simp [World.cell?, hh, h1]
  rw [hcell]
  unfold Cell.ok at hok
  rw [hu] at hok
  cases hv : cs[0] <;> rw [hv] at hok <;> first | (obtain ⟨rfl, _⟩ := hok; exact ⟨_, rfl⟩) | simp at hok
theorem max_of {W : World} (h : W.ShapedOpen Tryd.prog) : MX W := by
  obtain ⟨m, hm⟩ := int_of_shape (P := Tryd.prog) (t := 3) (zero := #[.int .i64 0]) (g := 2) h (of_decide_eq_true (by kernel_rfl)) (by kernel_rfl) rfl (by kernel_rfl) (by kernel_rfl) Tryd.underlying3
  refine ⟨?_, m, hm⟩
  rcases Nat.lt_or_ge 2 W.heap.size with h | h
  · exact h
  · exfalso
    unfold World.cell? at hm
    rw [Array.getElem?_eq_none h] at hm
    cases hm
theorem laidMet_tail {P : Program} {W : World} {x : String × DataW Unit} {rest : List (String × DataW Unit)} (h : laidMet P (x :: rest) W) : laidMet P rest W := by
  obtain ⟨n, d⟩ := x
  obtain ⟨ps, ⟨g', t', cs, fuel, p, q, hg', ht', hvar, hd, hr, hp⟩, hn, ha⟩ := h
  subst hp
  exact ⟨q, hr, (List.nodup_append.1 hn).2.1, fun b off hm => ha b off (List.mem_append_right _ hm)⟩
set_option maxRecDepth 100000 in
theorem err_cell {enc : TypeId × Value → Unit} {W : World} {base : Nat} {sp : Nat → Bool} {fuel : Nat} {t : TypeId} {tys : Array (String × TypeId)} {cs : List Value} {y : DataW Unit × List MemPlace} (ht : Tryd.prog.underlying t = some (.interface tys)) (h : DataW.trod enc Tryd.prog W base sp false fuel t cs = some y) :
    ∃ v, cs = [v] ∧ (v = .nilIface ∨ ∃ te pe, v = .iface te pe) := by
  cases fuel with
  | zero => simp [DataW.trod] at h
  | succ n =>
    match cs, h with
    | [], h => simp [DataW.trod, ht] at h
    | [v], h =>
      refine ⟨v, rfl, ?_⟩
      cases v with
      | nilIface => exact Or.inl rfl
      | iface te pe => exact Or.inr ⟨te, pe, rfl⟩
      | _ => simp [DataW.trod, ht] at h
    | _ :: _ :: _, h => simp [DataW.trod, ht] at h
/-- The error that a variable holds, at the head of what is laid. -/
theorem err_of_head {W : World} {nm : String} {d : DataW Unit} {rest : List (String × DataW Unit)} (g : Nat) (hL : laidMet Tryd.prog ((nm, d) :: rest) W) (hg : Tryd.prog.globalNamed nm = some g) (hty : (Tryd.prog.globals[g]?).map (·.type) = some 63) :
    g < W.heap.size ∧ ∃ ev, W.cell? ⟨g, 0, none⟩ = some ev ∧ (ev = .nilIface ∨ ∃ te pe, ev = .iface te pe) := by
  obtain ⟨ps, ⟨g', t', cs, fuel, p, q, hg', ht', hvar, hd, _, _⟩, _⟩ := hL
  obtain rfl := Option.some.inj (hg.symm.trans hg')
  obtain rfl := Option.some.inj (hty.symm.trans ht')
  obtain ⟨tys, hu⟩ : ∃ tys, Tryd.prog.underlying 63 = some (.interface tys) := ⟨_, Tryd.underlying63⟩
  obtain ⟨v, hc, hv⟩ := err_cell hu hd
  have c := World.var?_cell hg hvar 0
  have e0 : cs[0]? = some v := by
    rw [← Array.getElem?_toList, hc]; rfl
  rw [e0] at c
  refine ⟨?_, v, c, hv⟩
  rcases Nat.lt_or_ge g W.heap.size with h | h
  · exact h
  · exfalso
    unfold World.cell? at c
    rw [Array.getElem?_eq_none h] at c
    cases c
theorem range_of_tab {W : World} {nm : String} {k : IntKind} {zs : List Int} (g : Nat) (h : Lib.TabIs Tryd.prog W nm k zs) (hg : Tryd.prog.globalNamed nm = some g) (h0 : 0 < zs.length) : W.rangeAt g 0 (zs.map (Value.int k)) ∧ g < W.heap.size := by
  have key : W.rangeAt g 0 (zs.map (Value.int k)) := fun j v hv => by
    have c := World.var?_cell hg h j
    rw [Nat.zero_add, c, List.getElem?_toArray]
    exact hv
  refine ⟨key, ?_⟩
  have hv : (zs.map (Value.int k))[0]? = some (.int k (zs[0]'h0)) := by rw [List.getElem?_map, List.getElem?_eq_getElem h0]; rfl
  have c := key 0 _ hv
  rcases Nat.lt_or_ge g W.heap.size with h | h
  · exact h
  · exfalso
    unfold World.cell? at c
    rw [Array.getElem?_eq_none h] at c
    cases c
set_option maxRecDepth 100000 in
theorem keys_at {W : World} (h : Lib.TabIs Tryd.prog W "planisphere/archive.keys" .u32 (Go.Proofs.YtafeigpmldgifaaDoor.Arp.keyL.map fun (x : Nat) => (x : Int))) : Arw.Keys W := by
  obtain ⟨h1, h2⟩ := range_of_tab 1 h (by kernel_rfl) (by decide)
  exact ⟨by rw [List.map_map] at h1; exact h1, h2⟩
theorem digs_at {W : World} (h : Lib.TabIs Tryd.prog W "planisphere/archive.digits" .i32 ((List.range 16).map hexI)) : Arw.Digs W := by
  obtain ⟨h1, h2⟩ := range_of_tab 0 h (by kernel_rfl) (by decide)
  exact ⟨by rw [List.map_map] at h1; exact h1, h2⟩
set_option maxRecDepth 100000 in
theorem texts_laid {W : World} (hL : laidMet Tryd.prog Rows.archiveTextsRow.laid W) : Dw.Tb W ∧ Ow.ES W ∧ ER W ∧ Arw.Keys W ∧ Arw.Digs W := by
  have h3 := laidMet_tail (laidMet_tail hL)
  have h4 := laidMet_tail h3
  have h5 := laidMet_tail h4
  have h6 := laidMet_tail h5
  have h7 := laidMet_tail h6
  have h8 := laidMet_tail h7
  refine ⟨⟨Lib.tabIs_of_head (t := 130) (e := 21) (n := 25) Dw.gOrd (by kernel_rfl) (by kernel_rfl) (by kernel_rfl) (by kernel_rfl) (by kernel_rfl) h6,
    Lib.tabIs_of_head (t := 142) (e := 100) (n := 20) Dw.gPow (by kernel_rfl) (by kernel_rfl) (by kernel_rfl) (by kernel_rfl) (by kernel_rfl) h3⟩,
    err_of_head 3 h5 (by kernel_rfl) (by kernel_rfl), err_of_head 4 h4 (by kernel_rfl) (by kernel_rfl),
    keys_at (Lib.tabIs_of_head (g := 1) (t := 102) (e := 85) (n := 64) (by kernel_rfl) (by kernel_rfl) (by kernel_rfl) (by kernel_rfl) (by kernel_rfl) (by kernel_rfl) h7),
    digs_at (Lib.tabIs_of_head (rest := []) (g := 0) (t := 45) (e := 21) (n := 16) (by kernel_rfl) (by kernel_rfl) (by kernel_rfl) (by kernel_rfl) (by kernel_rfl) (by kernel_rfl) h8)⟩
end Cgw
end Go.Proofs.YtafeigpmldgifaaDoor
