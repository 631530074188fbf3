/-
  Lemmas and walks, texts joined: TKFnd, TKIns, TKSm.
-/
import Derived.RangeFuncWrites
import Derived.Laws.StructEq
import Derived.Test.YtdnogmanbdgadaaGreatDoorTb14
import Derived.Test.YtdnogmanbdgadaaGreatDoorTb15
import Derived.Test.YtdnogmanbdgadaaGreatDoorTb10
set_option linter.unusedSimpArgs false
set_option linter.unusedVariables false
set_option maxRecDepth 100000
set_option maxHeartbeats 40000000
namespace Go.Proofs.YtdnogmanbdgadaaGreatDoor
namespace Tw
open Go.RowKit Lw Tk _root_.Go.Proofs.YtdnogmanbdgadaaGreatDoor.Op Ow Go.Shelf
attribute [local go_sem] Oper.semAt_some

def maskTo (l:List Ob) (u:Rl) (i j:Fin l.length):Nat→Nat
 | 0=>(0 ||| 2 ^ i.1) ||| 2 ^ j.1
 | k+1=>if h:k<l.length then(if btw u l[i] l[j] (l[k]'h) then maskTo l u i j k ||| 2 ^ k else maskTo l u i j k) else maskTo l u i j k
theorem maskTo_lt (l:List Ob) (u:Rl) (i j:Fin l.length) (hl:l.length≤9):∀ k,maskTo l u i j k<512
 | 0=>or_lt (or_lt (by omega) (by omega)) (by omega)
 | k+1=>by
  have:=maskTo_lt l u i j hl k
  rw[maskTo]
  split
  ·split
   ·exact or_lt this (by omega)
   ·exact this
  ·exact this
def maskOf (l:List Ob) (u:Rl) (z:Fin l.length×Fin l.length):Nat:=maskTo l u z.1 z.2 l.length
theorem maskTo_yes {l:List Ob} {u:Rl} {i j:Fin l.length} {k:Nat} (h:k<l.length) (hb:btw u l[i] l[j] (l[k]'h)):maskTo l u i j (k+1)=maskTo l u i j k ||| 2 ^ k:=by rw[maskTo,dif_pos h,if_pos hb]
theorem maskTo_no {l:List Ob} {u:Rl} {i j:Fin l.length} {k:Nat} (h:k<l.length) (hb:¬ btw u l[i] l[j] (l[k]'h)):maskTo l u i j (k+1)=maskTo l u i j k:=by rw[maskTo,dif_pos h,if_neg hb]
theorem maskTo_bit (l:List Ob) (u:Rl) (i j:Fin l.length) (m:Nat):∀ k,(maskTo l u i j k).testBit m=true↔(m=i.1∨m=j.1 ∨ ∃ h:m<l.length,m<k∧btw u l[i] l[j] (l[m]'h))
 | 0=>by
  rw[maskTo,Nat.testBit_or,Nat.testBit_or,Nat.zero_testBit,Bool.false_or,Bool.or_eq_true,Nat.testBit_two_pow,Nat.testBit_two_pow]
  simp only[decide_eq_true_iff]
  constructor
  ·rintro (h|h)
   ·exact Or.inl h.symm
   ·exact Or.inr (Or.inl h.symm)
  ·rintro (h|h|⟨_,h,_⟩)
   ·exact Or.inl h.symm
   ·exact Or.inr h.symm
   ·omega
 | k+1=>by
  have ih:=maskTo_bit l u i j m k
  rw[maskTo]
  split
  ·rename_i hk
   split
   ·rename_i hb
    rw[Nat.testBit_or,Bool.or_eq_true,ih,Nat.testBit_two_pow,decide_eq_true_iff]
    constructor
    ·rintro ((h|h|⟨h1,h2,h3⟩)|rfl)
     ·exact Or.inl h
     ·exact Or.inr (Or.inl h)
     ·exact Or.inr (Or.inr ⟨h1,by omega,h3⟩)
     ·exact Or.inr (Or.inr ⟨hk,by omega,hb⟩)
    ·rintro (h|h|⟨h1,h2,h3⟩)
     ·exact Or.inl (Or.inl h)
     ·exact Or.inl (Or.inr (Or.inl h))
     ·by_cases e:m=k
      ·exact Or.inr e.symm
      ·exact Or.inl (Or.inr (Or.inr ⟨h1,by omega,h3⟩))
   ·rename_i hb
    rw[ih]
    constructor
    ·rintro (h|h|⟨h1,h2,h3⟩)
     ·exact Or.inl h
     ·exact Or.inr (Or.inl h)
     ·exact Or.inr (Or.inr ⟨h1,by omega,h3⟩)
    ·rintro (h|h|⟨h1,h2,h3⟩)
     ·exact Or.inl h
     ·exact Or.inr (Or.inl h)
     ·by_cases e:m=k
      ·subst e;exact absurd h3 hb
      ·exact Or.inr (Or.inr ⟨h1,by omega,h3⟩)
  ·rename_i hk
   rw[ih]
   constructor
   ·rintro (h|h|⟨h1,h2,h3⟩)
    ·exact Or.inl h
    ·exact Or.inr (Or.inl h)
    ·exact Or.inr (Or.inr ⟨h1,by omega,h3⟩)
   ·rintro (h|h|⟨h1,h2,h3⟩)
    ·exact Or.inl h
    ·exact Or.inr (Or.inl h)
    ·exact Or.inr (Or.inr ⟨h1,by omega,h3⟩)
def setOf (l:List Ob) (u:Rl) (z:Fin l.length×Fin l.length):List Nat:=(List.range l.length).filter fun k=>if h:k<l.length then decide (k=z.1.1∨k=z.2.1∨btw u l[z.1] l[z.2] (l[k]'h)) else false
theorem mask_set (l:List Ob) (u:Rl) (z:Fin l.length×Fin l.length) (hl:l.length≤9):bitsL (maskOf l u z)=setOf l u z:=by
 refine inc_ext (inc_bits _) (inc_filter _ _) fun m=>?_
 have hz1:=z.1.2
 have hz2:=z.2.2
 unfold setOf
 rw[mem_bits,maskOf,maskTo_bit,List.mem_filter,List.mem_range]
 constructor
 ·rintro ⟨h9,h⟩
  have hm:m<l.length:=by
   rcases h with h|h|⟨h,_⟩ <;> omega
  refine⟨hm,?_⟩
  rw[dif_pos hm,decide_eq_true_iff]
  rcases h with h|h|⟨_,_,h⟩
  ·exact Or.inl h
  ·exact Or.inr (Or.inl h)
  ·exact Or.inr (Or.inr h)
 ·rintro ⟨hm,h⟩
  rw[dif_pos hm,decide_eq_true_iff] at h
  refine⟨by omega,?_⟩
  rcases h with h|h|h
  ·exact Or.inl h
  ·exact Or.inr (Or.inl h)
  ·exact Or.inr (Or.inr ⟨hm,hm,h⟩)
theorem Fr.added {w0 w w':World} {b x i n:Nat} {L:List (Nat×List Value)} (h:Fr w0 ((b,mkE x)::L) w) (hw:w'=(w.setCell ⟨b,0,none⟩ (.int .u64 ((x ||| 2 ^ i:Nat):Int))).drewN n):Fr w0 ((b,mkE (x ||| 2 ^ i))::L) w':=by
 subst hw
 exact(h.put1 0 rfl 0 _ (by simp)).drewN n
theorem blk_below {W W':World} {b:Nat} {cs:Array Value} {t:TypeId} (h:W.heap[b]? = some (.cells cs t (0,0))) (hb:Below W.heap.size W W'):W'.heap[b]? = some (.cells cs t (0,0)):=(hb.block b (lt_of_block h)).trans h
theorem Boxed.below {W W':World} {b:Nat} {t:TypeId} {v:Value} (h:Boxed W b t v) (hb:Below W.heap.size W W'):Boxed W' b t v:=(hb.block b h.lt).trans h
theorem OwnG.kept {α β:Type} {E1 E2:TypeId} {k1 k2:Nat} {enc1:α→List Value} {enc2:β→List Value} {w w':World} {B1 B2:Nat} {v1 v2:Value} {l1:List α} {l2:List β} (h1:OwnG E1 k1 enc1 w B1 v1 l1) (h2:OwnG E2 k2 enc2 w B2 v2 l2) (hne:E1≠E2) {tmp:Obj} (hg:(w.alloc tmp).grownBy w' v2.ownBlock):OwnG E1 k1 enc1 w' B1 v1 l1:=by
 have hg':=(World.grownBy_alloc w tmp v2.ownBlock).trans hg
 refine⟨h1.1.kept hg' ?_,Nat.le_trans h1.2 hg'.size⟩
 rcases h1.1.2 with⟨rfl,_⟩|⟨g,cap,cur,rfl,_,hh,_⟩
 ·exact .inl rfl
 ·right
  intro e
  rcases h2.1.2 with⟨rfl,_⟩|⟨g2,cap2,cur2,rfl,_,hh2,_⟩
  ·simp[Value.ownBlock] at e
  ·obtain rfl:g=g2:=by simpa [Value.ownBlock] using e
   rw[hh] at hh2
   cases hh2
   exact hne rfl
def ItemsG (w:World) (B:Nat) (S:List Sl) (K:List (List Nat)):Prop:=S.length=K.length ∧ ∀ i (h:i<S.length) (h2:i<K.length),OwnG 3 1 inE w B (.slice (S[i]'h).a (S[i]'h).n (S[i]'h).c) (K[i]'h2)
theorem ItemsG.below {w w':World} {B:Nat} {S:List Sl} {K:List (List Nat)} (h:ItemsG w B S K) (hb:Below w.heap.size w w'):ItemsG w' B S K:=⟨h.1,fun i a b=>(h.2 i a b).below hb⟩
theorem ItemsG.kept {β:Type} {E2:TypeId} {k2:Nat} {enc2:β→List Value} {w w':World} {B B2:Nat} {v2:Value} {l2:List β} {S:List Sl} {K:List (List Nat)} (h:ItemsG w B S K) (h2:OwnG E2 k2 enc2 w B2 v2 l2) (hne:3≠E2) {tmp:Obj} (hg:(w.alloc tmp).grownBy w' v2.ownBlock):ItemsG w' B S K:=⟨h.1,fun i a b=>(h.2 i a b).kept h2 hne hg⟩
theorem ItemsG.snoc {w:World} {B:Nat} {S:List Sl} {K:List (List Nat)} {s:Sl} {q:List Nat} (h:ItemsG w B S K) (g:OwnG 3 1 inE w B (.slice s.a s.n s.c) q):ItemsG w B (S ++ [s]) (K ++ [q]):=by
 refine⟨by simp[h.1],fun i a b=>?_⟩
 have hl:=h.1
 rcases Nat.lt_or_ge i S.length with c|c
 ·have c2:i<K.length:=by omega
  simp only[List.getElem_append_left c,List.getElem_append_left c2]
  exact h.2 i c c2
 ·simp only[List.length_append,List.length_cons,List.length_nil] at a
  have e:i=S.length:=by omega
  subst e
  simp only[List.getElem_concat_length]
  have e2:(K ++ [q])[S.length]'b=q:=by
   rw[List.getElem_append_right (by omega)]
   simp[hl]
  rw[e2]
  exact g
theorem ItemsG.facts {w:World} {B:Nat} {S:List Sl} {K:List (List Nat)} (h:ItemsG w B S K):∀ i (a:i<S.length) (b:i<K.length),(S[i]'a).n=(K[i]'b).length∧RowsG 1 inE w (S[i]'a).a (K[i]'b):=fun i a b=>by
 obtain⟨A,cap,e,r, -⟩:=OwnG.form (enc:=inE) (fun _=>rfl) (h.2 i a b)
 injection e with e1 e2 e3
 exact⟨e2,by rw[e1];exact r⟩
theorem maxTo_len (M:List Nat):∀ (l out:List Nat),(maxTo M out l).length≤out.length+l.length
 | [],out=>by simp[maxTo]
 | a::l,out=>by
  rw[maxTo]
  have:=maxTo_len M l (if out.contains a || M.any (fun b=>a != b && inM a b) then out else out ++ [a])
  refine Nat.le_trans this ?_
  split <;> simp <;> omega
def keepTo (Q:List Nat) (c i:Nat):List (List Nat):=((Q.take i).map bitsL).filter fun s=>decide (c≤s.length)
theorem keepTo_yes {Q:List Nat} {c i:Nat} (h:i<Q.length) (g:c≤(bitsL Q[i]).length):keepTo Q c (i+1)=keepTo Q c i ++ [bitsL Q[i]]:=by
 unfold keepTo
 rw[← List.take_append_getElem h,List.map_append,List.filter_append]
 simp[g]
theorem keepTo_no {Q:List Nat} {c i:Nat} (h:i<Q.length) (g:¬ c≤(bitsL Q[i]).length):keepTo Q c (i+1)=keepTo Q c i:=by
 unfold keepTo
 rw[← List.take_append_getElem h,List.map_append,List.filter_append]
 simp[g]
theorem putObj_cell {w:World} {D b j:Nat} {o o':Obj} {v:Value} (h:w.heap[D]? = some o) (ho:o.isCells=false) (hc:w.cell? ⟨b,j,none⟩=some v):(w.putObj D o').cell? ⟨b,j,none⟩=some v:=by
 have hne:b≠D:=by
  rintro rfl
  obtain⟨c,e,fr,hb, -⟩:=Sort.cells_of_cell? hc
  rw[h] at hb
  cases hb
  cases ho
 rw[World.cell?_of_block (w:=w) (World.putObj_heap_other (by omega))]
 exact hc
theorem RowsG.putObj {α:Type} {k:Nat} {enc:α→List Value} {w:World} {A:Option Addr} {l:List α} (h:RowsG k enc w A l) {D:Nat} {o o':Obj} (hD:w.heap[D]? = some o) (ho:o.isCells=false):RowsG k enc (w.putObj D o') A l :=
 ⟨fun i hi=>by
  obtain⟨g,e,lt,r⟩:=h.row i hi
  exact⟨g,e,by rw[World.putObj_size];exact lt,fun j v hv=>putObj_cell hD ho (r j v hv)⟩⟩
theorem SetsAt.putObj {w:World} {V:Value} {K:List (List Nat)} (h:SetsAt w V K) {D:Nat} {o o':Obj} (hD:w.heap[D]? = some o) (ho:o.isCells=false):SetsAt (w.putObj D o') V K:=by
 obtain⟨A,cap,S,h1,h2,h3,h4⟩:=h
 exact⟨A,cap,S,h1,h2,h3.putObj hD ho,fun i a b=>⟨(h4 i a b).1,(h4 i a b).2.putObj hD ho⟩⟩
theorem find_any (x:Option Addr) (cap:Nat) (l:List Ob) (u:Rl) (w:World) (hE:ES w) (hD:DB w) (hl:SlA w x l) (hm0:l.length≤1000000) (hs:stT l u=0→l.length≤9) (hb:OBs l) :
  Calls Tryz.prog 13 #[.slice x l.length cap,rlV u] w fun e w'=>∃ V,e = .returned (.tuple #[V, .int .i64 (stT l u)])∧Below w.heap.size w w' ∧
   ∃ K',SetsAt w' V K'∧(stT l u=0→K'.Pairwise (fun s t=>ltL t s=false)∧K'.Perm (keepL ((allA l u l.length).map (maskOf l u)) u.count.toNat))∧(stT l u≠0→K' = []):=by
 have F0:=((Fr.start w).alloc [.slice x l.length cap] 22).alloc (rlC u) 24
 have BO0:=Below.heap_alloc (w.alloc (.cells [.slice x l.length cap].toArray 22)) (.cells (rlC u).toArray 24) w.heap.size (by simp)
 rw[World.alloc_heap_new] at BO0
 have BR0:=World.alloc_heap_new (w.alloc (.cells [.slice x l.length cap].toArray 22)) (.cells (rlC u).toArray 24)
 simp only[World.size_alloc] at F0 BR0
 have BO0:=Lib.hid BO0
 have BR0:=Lib.hid BR0
 have F0:=Lib.hid F0
 have ST:=Lib.hid (fun w' (hbw:Below w.heap.size w w')=>start_any x cap l u w' (hE.below hbw) (hl.below hbw) (by omega) hb)
 refine(callsIn_wide (n:=4)).1 ?_
 refine callsIn_of_wp_marks Tryz.func13 rfl trivial ?_ rfl
 simp only[Tryz.ntmps13,List.size_toArray,List.length_cons,List.length_nil,Nat.reduceAdd,Nat.reduceSub,Array.replicate_succ,Array.replicate_zero,List.push_toArray,List.append_toArray,List.nil_append,List.cons_append]
 by_cases h0:stT l u=0
 ·obtain⟨hlen,hok,hu⟩:=stT_ok h0
  have hm:=hs h0
  clear hs
  have HL:=Lib.hid (fun w' (hbw:Below w.heap.size w w')=>hl.below hbw)
  have HD:=Lib.hid (fun w' (hbw:Below w.heap.size w w')=>hD.below hbw)
  rw[h0] at ST ⊢
  clear hE hl hb h0 hD
  gi_wp2_with (first|(refine⟨trivial,?_⟩;gi_at_call 31;refine(callsIn_wide.2 (ST.out _ F0.out.below)).mono ?_;rintro e w1 ⟨rfl,hb⟩;have F1:=F0.out.call hb;have BO1:=Lib.hid (blk_below BO0.out hb);have BR1:=Lib.hid (blk_below BR0.out hb);obtain⟨c0,c1,c2,c3,c4⟩:=F1.c5 0 rfl;have co:=F1.cell 1 0 rfl rfl;have F2:=F1.alloc (ntC x l.length cap u) 75;have F3:=F2.alloc [.slice none 0 0] 76;obtain⟨d0,d1,d2,d3,d4,d5⟩:=F3.c6 1 rfl;have F3:=Lib.hid F3;clear hb F1 F2)|(refine⟨trivial,?_⟩;gi_at_call 32;refine(callsIn_wide.2 (pairs_walk _ _ _ _ _)).mono ?_;rintro e w' ⟨rfl,rfl⟩))
  clear c0 c1 c2 c3 c4 co d0 d1 d2 d3 d4 d5
  have F4:=F3.out.alloc (ntC x l.length cap u) 75
  have lw:w.heap.size+1<w1.heap.size:=lt_of_block BR1.out
  have al:=fun (W:World) (o:Obj) (b:Nat) (cs:Array Value) (t:TypeId) (h:W.heap[b]? = some (.cells cs t (0,0)))=>(Below.heap_alloc W o b (lt_of_block h)).trans h
  have bO:=al _ (.cells (ntC x l.length cap u).toArray 75) _ _ _ (al _ (.cells #[.slice none 0 0] 76) _ _ _ (al _ (.cells (ntC x l.length cap u).toArray 75) _ _ _ BO1.out))
  have bR:=al _ (.cells (ntC x l.length cap u).toArray 75) _ _ _ (al _ (.cells #[.slice none 0 0] 76) _ _ _ (al _ (.cells (ntC x l.length cap u).toArray 75) _ _ _ BR1.out))
  have bN:=al _ (.cells (ntC x l.length cap u).toArray 75) _ _ _ (al _ (.cells #[.slice none 0 0] 76) _ _ _ (World.alloc_heap_new w1 (.cells (ntC x l.length cap u).toArray 75)))
  have bS:=(Boxed.new (w1.alloc (.cells (ntC x l.length cap u).toArray 75)) 76 (.slice none 0 0)).alloc (.cells (ntC x l.length cap u).toArray 75)
  have bI:=World.alloc_heap_new ((w1.alloc (.cells (ntC x l.length cap u).toArray 75)).alloc (.cells #[.slice none 0 0] 76)) (.cells (ntC x l.length cap u).toArray 75)
  clear al
  simp only[World.size_alloc] at F4 bS bI
  obtain⟨i0,hi,hz0,hz1,hz2⟩:=info_parts info_mk
  refine wpIn_rangeFunc_ownG rfl (by omega) (gf:=61) (lb:=#[.pointer (some ⟨w1.heap.size+1+1,0,none⟩)]) rfl trivial (enters_of Tryz.func61 (by kernel_rfl) rfl)
   (pairs_stops 3 (by omega) (w1.heap.size+1+1) l x cap u w _ (HL.out w (Below.refl _ _)) hok hu (by omega) F4.below bI) Wd.keepB_t (Wd.keepB_b (by simp;omega) (by simp)) (Below.refl _ _) (fun _=>rfl)
   (fun pre W=>((∃ v,Boxed W (w1.heap.size+1) 76 v∧W.ownsRow w.heap.size 82 4 v pre.length ((pre.map (maskOf l u)).flatMap mkE)∧True)∧(W.heap[w1.heap.size+1+1]? = some (.cells (ntC x l.length cap u).toArray 75 (0,0))∧W.heap[w1.heap.size]? = some (.cells (ntC x l.length cap u).toArray 75 (0,0))∧W.heap[w.heap.size]? = some (.cells [.slice x l.length cap].toArray 22 (0,0))∧W.heap[w.heap.size+1]? = some (.cells (rlC u).toArray 24 (0,0))))∧Below w.heap.size w W)
   (fun _ _ _=>False)
   (OwnFrom.and (OwnFrom.and (Own.from (holdsRow_own w.heap.size (w1.heap.size+1) 76 82 4 (fun (pre:List (Fin l.length×Fin l.length))=>pre.length) (fun pre=>(pre.map (maskOf l u)).flatMap mkE) (fun _ _=>True)) _) (OwnFrom.and (Own.from (blk_own _ _ _) _) (OwnFrom.and (Own.from (blk_own _ _ _) _) (OwnFrom.and (Own.from (blk_own _ _ _) _) (Own.from (blk_own _ _ _) _))))) (ownFrom_below (Nat.le_refl _) (by simp;omega)))
   (fun _ _ _ _ _ hs _ _=>hs)
   ⟨⟨⟨_,bS,World.ownsRow_nil _ _ _ _,trivial⟩,bI,bN,bO,bR⟩,F4.below⟩
   (fun z=>{ tmps:=#[.slice x l.length cap,rlV u, .pointer (some ⟨w.heap.size,0,none⟩), .pointer (some ⟨w.heap.size+1,0,none⟩), .slice none 0 0, .int .i64 0, .int .i64 0, .pointer (some ⟨w1.heap.size,0,none⟩), .pointer (some ⟨w1.heap.size+1,0,none⟩),(.int .i64 (z.1.1:Int)),(.int .i64 (z.2.1:Int)),undef,undef,undef,undef,undef,undef, .slice x l.length cap, .agg #[.int .i64 u.least, .int .i64 u.most, .int .i64 u.speed, .int .i64 u.off, .int .i64 u.count], .int .i64 0, .int .i64 0, .bool false,undef, .slice x l.length cap, .agg #[.int .i64 u.least, .int .i64 u.most, .int .i64 u.speed, .int .i64 u.off, .int .i64 u.count], .agg #[.slice x l.length cap, .int .i64 u.least, .int .i64 u.most, .int .i64 u.speed, .int .i64 u.off, .int .i64 u.count], .agg #[.slice x l.length cap, .int .i64 u.least, .int .i64 u.most, .int .i64 u.speed, .int .i64 u.off, .int .i64 u.count], .func (.func 61) #[] #[.pointer (some ⟨w1.heap.size+1+1,0,none⟩)],(.int .i64 (z.1.1:Int)),(.int .i64 (z.2.1:Int)),undef,undef,undef,undef,undef,undef,undef,undef,undef,undef,undef,undef,undef,undef,undef,undef,undef,undef,undef,undef,undef,undef,undef,undef,undef,undef,undef,undef,undef,undef,undef,undef,undef,undef,undef,undef,undef,undef,undef,undef,undef,undef,undef],defers:=[] }) ?assign ?body ?done ?stop
  case assign =>
   intro l' z W K hK
   dsimp only[pEnc]
   gi_wp2
   exact hK
  case body =>
   rintro l' pre z W ⟨⟨⟨v,hv,hrow, -⟩,hI,hN,hO,hR⟩,hB⟩ hlt
   have hpl:pre.length≤100:=by
    exact Nat.le_trans (Nat.le_of_lt hlt) (Nat.mul_le_mul (show l.length≤10 by omega) (show l.length≤10 by omega))
   have hy1:z.1.1<9:=Nat.lt_of_lt_of_le z.1.2 hm
   have hy2:z.2.1<9:=Nat.lt_of_lt_of_le z.2.2 hm
   obtain⟨B,off,hx, -⟩:=(HL.out w (Below.refl _ _)).get z.1.2
   subst hx
   have HP:=Lib.hid (fun ws (hb:Below W.heap.size W ws) k (hk:k<l.length)=>pair_at (HL.out w (Below.refl _ _)) hok rfl z.1.2 hk (hB.trans (hb.mono hB.size)))
   have FA:Fr W [(W.heap.size,mkE 0)] (W.alloc (.cells #[.int .u64 0, .int .u64 0, .int .u64 0, .int .u64 0] 82)):=(Fr.start W).alloc [.int .u64 0, .int .u64 0, .int .u64 0, .int .u64 0] 82
   have FA:=Lib.hid FA
   have hN:=Lib.hid hN
   have hO:=Lib.hid hO
   have hR:=Lib.hid hR
   have hI:=Lib.hid hI
   have hv:=Lib.hid hv
   have hrow:=Lib.hid hrow
   have A1:=Lib.hid (add_any W.heap.size z.1.1 0 _ (by omega) hy1 (FA.out.get 0 rfl) (FA.out.there 0 rfl))
   have A2:=Lib.hid (fun w2 (F1:Fr W [(W.heap.size,mkE (0 ||| 2 ^ z.1.1))] w2)=>add_any W.heap.size z.2.1 _ w2 (or_lt (by omega) hy1) hy2 (F1.get 0 rfl) (F1.there 0 rfl))
   gi_wp2_with (first|(refine⟨trivial,?_⟩;gi_at_call 33;refine(CallsIn.inRound l' (callsIn_wide.2 A1.out)).mono ?_;rintro e w2 ⟨rfl,n1,hw2⟩;have F1:=Lib.hid (Fr.added FA.out hw2);clear hw2 A1)|(refine⟨trivial,?_⟩;gi_at_call 33;refine(CallsIn.inRound l' (callsIn_wide.2 (A2.out _ F1.out))).mono ?_;rintro e w3 ⟨rfl,n2,hw3⟩;have F2:=Lib.hid (Fr.added F1.out hw3);have co:=blk_cell (blk_below hO.out F2.out.below) (show [Value.slice (some ⟨B,off,none⟩) l.length cap].toArray[0]? = some (.slice (some ⟨B,off,none⟩) l.length cap) from rfl);clear hw3))
   clear co
   gi_loopw [36] (fun zk ws=>∃ k:Nat,k≤l.length∧zk = .int .i64 k∧Hid (Fr W [(W.heap.size,mkE (maskTo l u z.1 z.2 k))] ws)) (fun zk _=>l.length-(intOf zk).toNat)
   case atStart=>exact⟨0,Nat.zero_le _,rfl,F2⟩
   case round =>
    clear F2 A2
    obtain⟨k,hk,rfl,FK⟩:=hrel
    have bw:=FK.out.below
    by_cases hkn:k<l.length
    ·have ki:(k:Int)<(l.length:Int):=by omega
     have hii:IntKind.i64.wrap ((k:Int)+1)=((k+1:Nat):Int):=by rw[IntKind.wrap_i64];omega
     have bn:=blk_below hN.out bw
     have n0:=blk_cell bn (show (ntC (some ⟨B,off,none⟩) l.length cap u).toArray[0]? = some (.slice (some ⟨B,off,none⟩) l.length cap) from rfl)
     have n1:=blk_cell bn (show (ntC (some ⟨B,off,none⟩) l.length cap u).toArray[1]? = some (.int .i64 u.least) from rfl)
     have n2:=blk_cell bn (show (ntC (some ⟨B,off,none⟩) l.length cap u).toArray[2]? = some (.int .i64 u.most) from rfl)
     have n3:=blk_cell bn (show (ntC (some ⟨B,off,none⟩) l.length cap u).toArray[3]? = some (.int .i64 u.speed) from rfl)
     have n4:=blk_cell bn (show (ntC (some ⟨B,off,none⟩) l.length cap u).toArray[4]? = some (.int .i64 u.off) from rfl)
     have n5:=blk_cell bn (show (ntC (some ⟨B,off,none⟩) l.length cap u).toArray[5]? = some (.int .i64 u.count) from rfl)
     have bt:=between_any l.length cap z.1.1 z.2.1 k B off u l[z.1] l[z.2] (l[k]'hkn) wr (HP.out wr bw z.2.1 z.2.2) (HP.out wr bw k hkn) hu
     clear bn bw
     by_cases hbt:btw u l[z.1] l[z.2] (l[k]'hkn)
     ·rw[decide_eq_true hbt] at bt
      have MY:=Lib.hid (maskTo_yes hkn hbt)
      have AD:=Lib.hid (fun w2 (F1:Fr W [(W.heap.size,mkE (maskTo l u z.1 z.2 k))] w2)=>add_any W.heap.size k _ w2 (maskTo_lt l u z.1 z.2 hm k) (by omega) (F1.get 0 rfl) (F1.there 0 rfl))
      gi_wp2_with (first|(refine⟨trivial,?_⟩;gi_at_call 34;refine(CallsIn.inRound l' (callsIn_wide.2 bt)).mono ?_;rintro e w5 ⟨rfl,hb5⟩;have F5:=Lib.hid (FK.out.call hb5);clear hb5)|(refine⟨trivial,?_⟩;gi_at_call 33;refine(CallsIn.inRound l' (callsIn_wide.2 (AD.out _ F5.out))).mono ?_;rintro e w6 ⟨rfl,n6,hw6⟩;have F6:=Lib.hid (Fr.added F5.out hw6);clear hw6))
      go_roundw
      case rel=>exact⟨k+1,by omega,rfl,by rw[MY.out];exact F6⟩
      case measure=>simp[intOf];omega
     ·rw[decide_eq_false hbt] at bt
      have MN:=Lib.hid (maskTo_no hkn hbt)
      gi_wp2_with (refine⟨trivial,?_⟩;gi_at_call 34;refine(CallsIn.inRound l' (callsIn_wide.2 bt)).mono ?_;rintro e w5 ⟨rfl,hb5⟩;have F5:=Lib.hid (FK.out.call hb5);clear hb5)
      go_roundw
      case rel=>exact⟨k+1,by omega,rfl,by rw[MN.out];exact F5⟩
      case measure=>simp[intOf];omega
    ·obtain rfl:k=l.length:=by omega
     have FM:Fr W [(W.heap.size,mkE (maskOf l u z))] wr:=FK.out
     clear FK
     obtain⟨m0,m1,m2,m3⟩:=FM.c4 0 rfl
     have bS:=Boxed.below hv.out bw
     have hc:=bS.cell
     have hrw:=ownsRow_below hrow.out bw
     have hsz:=bw.size
     have hbs:=hB.size
     gi_wp2_with (gi_at_builtin;refine wpListIn_append_own _ rfl _ _ 76 rfl w.heap.size 82 i0 (.agg #[.int .u64 0, .int .u64 0, .int .u64 0, .int .u64 0]) 4 32 Tryz.underlying76 hi hz0 hz1 hz2 rfl (by decide) _ _ _ rfl (hrw.alloc _) ⟨wr.heap.size,0,none⟩ 1 1 (mkE (maskOf l u z)) rfl rfl (newsG (rangeAt_new _ _ _)) (mkE_one _) (by unfold maxLen;omega) (by omega) (by simp;omega) ?_;intro v' w7 hown' hgrow _;obtain⟨g',cap',rfl⟩:=ownsRow_succ hown';obtain⟨hv1,hv2,hr2,hk2,hb2⟩:=bS.appended (by decide) hrw (by omega) (by omega) hown' hgrow;have hc1:=hv1.cell;have hf1:=hv1.frozen)
     have q:=fun (b:Nat) (cs:Array Value) (t:TypeId) (h:W.heap[b]? = some (.cells cs t (0,0))) (hne:t≠82) (hb:b≠w1.heap.size+1)=>blk_set (blk_alloc_grown (blk_below h bw) (blk_row (blk_below h bw) hne hrw) hgrow) (w1.heap.size+1) hb (.slice (some ⟨g',0,none⟩) (pre.length+1) cap')
     have hI2:=q _ _ _ hI.out (by decide) (by omega)
     have hN2:=q _ _ _ hN.out (by decide) (by omega)
     have hO2:=q _ _ _ hO.out (by decide) (by omega)
     have hR2:=q _ _ _ hR.out (by decide) (by omega)
     have hb3:=(bw.mono hB.size).trans hb2
     exact⟨(KeepsFrom.of_grownBy (below_grown bw) (fun j e=>by cases e)).trans (hk2.from _),⟨hb3,hI2.trans hI.out.symm⟩,⟨⟨⟨_,hv2,by simpa using hr2,trivial⟩,hI2,hN2,hO2,hR2⟩,hB.trans hb3⟩⟩
  case done =>
   rintro D ys W hD rfl ⟨⟨⟨v,hv,hrow, -⟩,hI,hN,hO,hR⟩,hB⟩ hK
   obtain⟨M,hMd⟩:∃ M,(allA l u l.length).map (maskOf l u)=M:=⟨_,rfl⟩
   have hMl:M.length≤100:=by
    rw[← hMd,List.length_map]
    exact Nat.le_trans (allA_len l u _) (Nat.mul_le_mul (show l.length≤10 by omega) (show l.length≤10 by omega))
   have hM:∀ x∈M,x<512:=fun x hx=>by
    rw[← hMd] at hx
    obtain⟨z, -,rfl⟩:=List.mem_map.1 hx
    exact maskTo_lt l u _ _ hm _
   have OG:OwnG 82 4 mkE W w.heap.size v M:=⟨by rw[← hMd,List.length_map];exact hrow,hB.size⟩
   have HMD:=Lib.hid hMd
   clear hrow hMd
   obtain⟨A,capm,rfl,rows, -⟩:=OwnG.form (enc:=mkE) (fun _=>rfl) OG
   have mx:=maximal_any A capm M hM (by omega) W rows
   have hc:=hv.cell
   have hQ:∀ q∈maxTo M [] M,q<512:=fun q hq=>by
    rcases((maxTo_is M M [] List.nodup_nil).2 q).1 hq with h|h
    ·cases h
    ·exact hM q h.1
   have hQl:(maxTo M [] M).length≤512:=by
    have:=maxTo_len M M []
    simp only[List.length_nil] at this
    omega
   obtain⟨Q,hQd⟩:∃ Q,maxTo M [] M=Q:=⟨_,rfl⟩
   rw[hQd] at mx hQ hQl
   have HQD:=Lib.hid hQd
   have HR:=Lib.hid hR
   have HB:=Lib.hid hB
   have HK:=Lib.hid hK
   have hWD:=(Array.getElem?_eq_some_iff.1 hK).1
   clear hQd hR hB hI hN hO rows OG hM
   gi_wp2_with (refine⟨trivial,?_⟩;gi_at_call 35;refine(callsIn_wide.2 mx).mono ?_;rintro e w2 ⟨V2,rfl,O2,hb2⟩;obtain⟨A2,cap2,rfl, -, -⟩:=OwnG.form (enc:=mkE) (fun _=>rfl) O2;have OQ:=Lib.hid O2;have BB:=Lib.hid hb2;clear O2 hb2)
   have OK:=Lib.hid (OwnG.nil (E:=29) (k:=1) (enc:=slE) w2 W.heap.size BB.out.size)
   have IT:Hid (ItemsG w2 W.heap.size [] []):=Lib.hid ⟨rfl,fun i h=>by cases h⟩
   gi_loopw [13,54] (fun vk zk ws=>∃ (i:Nat) (S:List Sl) (K:List (List Nat)),zk = .int .i64 (i:Int)∧i≤Q.length∧K.length≤i∧Hid (K=keepTo Q u.count.toNat i)∧Hid (OwnG 29 1 slE ws W.heap.size vk S)∧Hid (ItemsG ws W.heap.size S K)∧Hid (Below W.heap.size W ws)∧Hid (OwnG 82 4 mkE ws W.heap.size (.slice A2 Q.length cap2) Q)) (fun _ zk _=>((Q.length:Int)-intOf zk).toNat)
   case atStart=>exact⟨0,[],[],rfl,Nat.zero_le _,by simp,Lib.hid rfl,OK,IT,BB,OQ⟩
   case round =>
    clear OK IT BB OQ
    obtain⟨i,S,K,rfl,hi,hKi,EK,OK,IT,BB,OQ⟩:=hrel
    by_cases hlt:i<Q.length
    ·obtain⟨A3,cap3,e3,rows3, -⟩:=OwnG.form (enc:=mkE) (fun _=>rfl) OQ.out
     obtain⟨g,ea,hg,hrow⟩:=rows3.row i hlt
     rw[ea] at e3
     injection e3 with e4 e5 e6
     subst e4
     clear e5 e6 ea
     have hii:IntKind.i64.wrap ((i:Int)+1)=((i+1:Nat):Int):=by rw[IntKind.wrap_i64];omega
     have g0:wr.cell? ⟨g,i*4,none⟩=some (.int .u64 (Q[i]:Int)):=hrow 0 _ rfl
     have g1:=hrow 1 _ rfl
     have g2:=hrow 2 _ rfl
     have g3:=hrow 3 _ rfl
     have hq:=hQ _ (List.getElem_mem hlt)
     have KY:=Lib.hid (keepTo_yes (c:=u.count.toNat) hlt)
     have KN:=Lib.hid (keepTo_no (c:=u.count.toNat) hlt)
     clear hrow rows3 hQ
     generalize Q[i]=q at *
     have FA:=(Fr.start wr).alloc (mkE q) 82
     obtain⟨a0,a1,a2,a3⟩:=FA.c4 0 rfl
     have BA:=below_then BB.out FA.below
     have li:=list_any q _ hq ((HD.out W HB.out).below BA)
     have hls:W.heap.size≤(wr.alloc (.cells (mkE q).toArray 82)).heap.size:=BA.size
     have BA:=Lib.hid BA
     have FB:=Lib.hid FA.below
     have hlen9:(bitsL q).length≤9:=Nat.le_trans (List.length_filter_le _ _) (by simp)
     clear FA
     by_cases hcnt:u.count≤((bitsL q).length:Int)
     ·have EK2:=Lib.hid (show K ++ [bitsL q]=keepTo Q u.count.toNat (i+1) from by rw[KY.out (by omega),EK.out])
      clear KY KN
      gi_wp2_with (first|(refine⟨trivial,?_⟩;gi_at_call 37;refine(callsIn_wide.2 li).mono ?_;rintro e w3 ⟨V3,rfl,O3,hb3⟩;obtain⟨A3,cap3,rfl, -, -⟩:=OwnG.form (enc:=inE) (fun _=>rfl) O3;have B3:=Lib.hid (below_then BA.out hb3);have OK3:=Lib.hid ((OK.out.below FB.out).below hb3);have IT3:=Lib.hid (((IT.out.below FB.out).below hb3).snoc (s:=⟨A3,(bitsL q).length,cap3⟩) (O3.least hls));have OQ3:=Lib.hid ((OQ.out.below FB.out).below hb3);have cr:=blk_cell (blk_below HR.out B3.out) (show (rlC u).toArray[4]? = some (.int .i64 u.count) from rfl);clear O3 hb3)|(gi_at_builtin;refine wpIn_appG 34 (.slice none 0 0) 24 info_sl Tryz.underlying34 rfl (by decide) (by decide) (fun _=>rfl) slE_one _ rfl (.tmp 65) (.tmp 67) rfl W.heap.size _ S ⟨A3,(bitsL q).length,cap3⟩ rfl rfl OK3.out (by have:=IT3.out.1;simp at this;omega) ?_;intro v' w4 hO4 hb4 hgr;have OK4:=Lib.hid hO4;have IT4:=Lib.hid (IT3.out.kept OK3.out (by decide) hgr);have OQ4:=Lib.hid (OQ3.out.kept OK3.out (by decide) hgr);have B4:=Lib.hid (B3.out.trans hb4);clear hO4 hb4 hgr))
      go_roundw
      case rel=>exact⟨i+1,S ++ [⟨A3,(bitsL q).length,cap3⟩],K ++ [bitsL q],rfl,by omega,by simp;omega,EK2,OK4,IT4,B4,OQ4⟩
      case measure=>simp[intOf];omega
     ·have EK2:=Lib.hid (show K=keepTo Q u.count.toNat (i+1) from by rw[KN.out (by omega),EK.out])
      clear KY KN
      gi_wp2_with (refine⟨trivial,?_⟩;gi_at_call 37;refine(callsIn_wide.2 li).mono ?_;rintro e w3 ⟨V3,rfl,O3,hb3⟩;obtain⟨A3,cap3,rfl, -, -⟩:=OwnG.form (enc:=inE) (fun _=>rfl) O3;have B3:=Lib.hid (below_then BA.out hb3);have OK3:=Lib.hid ((OK.out.below FB.out).below hb3);have IT3:=Lib.hid ((IT.out.below FB.out).below hb3);have OQ3:=Lib.hid ((OQ.out.below FB.out).below hb3);have cr:=blk_cell (blk_below HR.out B3.out) (show (rlC u).toArray[4]? = some (.int .i64 u.count) from rfl);clear O3 hb3)
      go_roundw
      case rel=>exact⟨i+1,S,K,rfl,by omega,by omega,EK2,OK3,IT3,B3,OQ3⟩
      case measure=>simp[intOf];omega
    ·obtain rfl:i=Q.length:=by omega
     have hk9:∀ s∈K,s.length≤1000000:=fun s hs=>by
      rw[EK.out] at hs
      obtain⟨y, -,rfl⟩:=List.mem_map.1 (List.mem_filter.1 hs).1
      exact Nat.le_trans (Nat.le_trans (List.length_filter_le _ _) (by simp)) (by decide:9≤1000000)
     have so:=sort_any wr W.heap.size _ S K OK.out IT.out.1 IT.out.facts hk9 (by have:=IT.out.1;omega)
     gi_wp2_with (refine⟨trivial,?_⟩;gi_at_call 38;refine(callsIn_wide.2 so).mono ?_;rintro e w5 ⟨rfl,hb5,K',hp,hs,hset⟩)
     have B5:=BB.out.trans hb5
     have hK5:=(B5.block D hWD).trans HK.out
     have hbb:=(below_then HB.out B5).trans (belowK_b (w:=w) (Nat.le_refl _) w5 D _ (.deferred none) (by simp at hD;omega) hK5 rfl rfl)
     have hperm:K'.Perm (keepL ((allA l u l.length).map (maskOf l u)) u.count.toNat):=by
      rw[HMD.out]
      refine hp.trans (List.Perm.of_eq ?_)
      rw[EK.out,keepTo,List.take_length,keepL,HQD.out]
     refine⟨by simp, .inl ⟨_,_,rfl,run_takeDeferred hK5,?_⟩⟩
     refine⟨_,results_tmp2 rfl _ _ _,_,rfl,hbb,K',hset.putObj hK5 rfl,?_⟩
     first|exact⟨hs,hperm⟩|exact⟨⟨hs,hperm⟩,by simp⟩|exact⟨⟨hs,hperm⟩,fun h=>absurd rfl h⟩
  case stop =>
   rintro D c pre W _ _ h _
   exact h.elim
 ·have hne:¬ (stT l u=0):=h0
  clear hE hl hb hD
  generalize stT l u=c at *
  gi_wp2_with (refine⟨trivial,?_⟩;gi_at_call 31;refine(callsIn_wide.2 (ST.out _ F0.out.below)).mono ?_;rintro e w1 ⟨rfl,hb⟩;have F1:=Lib.hid (F0.out.call hb);clear hb)
  ·exact⟨_,results_tmp2 rfl _ _ _, .slice none 0 0,rfl,F1.out.below,[],⟨none,0,[],rfl,rfl,⟨fun i h=>by cases h⟩,fun i h=>by cases h⟩,fun h=>absurd h hne,fun _=>rfl⟩
end Tw
namespace Tk
end Tk
namespace Tw
open Go.RowKit Lw Tk Ow
theorem rowS {w:World} {A:Option Addr} {S:List Sl} (h:RowsG 1 slE w A S) {i:Nat} (hi:i<S.length):∃ g,A=some ⟨g,0,none⟩∧w.cell? ⟨g,i,none⟩=some (.slice S[i].a S[i].n S[i].c):=by
 obtain⟨g,e, -,r⟩:=h.row i hi
 have:=r 0 _ rfl
 rw[Nat.mul_one,Nat.add_zero] at this
 exact⟨g,e,this⟩
end Tw
namespace Tw
open Go.RowKit Lw Tk Ow

theorem samesets_any (V1 V2:Value) (K:List (List Nat)) (w:World) (h1:SetsAt w V1 K) (h2:SetsAt w V2 K) (hs:K.length≤1000000) (hk:∀ s∈K,s.length≤1000000) :
  Calls Tryz.prog 18 #[V1,V2] w fun e w'=>e = .returned (.bool true) ∧ ∃ q,w'=w.drewN q:=by
 obtain⟨A1,c1,S1,rfl,e1,R1,F1⟩:=h1
 obtain⟨A2,c2,S2,rfl,e2,R2,F2⟩:=h2
 have X1:=Lib.hid (show ∀ w' (hb:Below w.heap.size w w') i (h:i<K.length),∃ g,A1=some ⟨g,0,none⟩ ∧ ∃ a c,w'.cell? ⟨g,i,none⟩=some (.slice a K[i].length c)∧RowsG 1 inE w' a K[i] from fun w' hb i h=>by
  obtain⟨g,ea,hc⟩:=rowS (R1.below hb) (i:=i) (by omega)
  have f:=F1 i (by omega) h
  rw[f.1] at hc
  exact⟨g,ea,_,_,hc,f.2.below hb⟩)
 have X2:=Lib.hid (show ∀ w' (hb:Below w.heap.size w w') i (h:i<K.length),∃ g,A2=some ⟨g,0,none⟩ ∧ ∃ a c,w'.cell? ⟨g,i,none⟩=some (.slice a K[i].length c)∧RowsG 1 inE w' a K[i] from fun w' hb i h=>by
  obtain⟨g,ea,hc⟩:=rowS (R2.below hb) (i:=i) (by omega)
  have f:=F2 i (by omega) h
  rw[f.1] at hc
  exact⟨g,ea,_,_,hc,f.2.below hb⟩)
 clear e1 e2 R1 R2 F1 F2
 go_enter Tryz.func18,Tryz.ntmps18
 go_wp2_with fail
 go_loopw [5] (fun z wr=>∃ i:Nat,z = .int .i64 (i:Int)∧i≤K.length∧Hid (∃ q,wr=w.drewN q)) (fun z _=>((K.length:Int)-intOf z).toNat)
 case atStart=>exact⟨0,rfl,by omega,Lib.hid ⟨0,rfl⟩⟩
 case round =>
  obtain⟨i,rfl,hi,BB⟩:=hrel
  have hii:IntKind.i64.wrap ((i:Int)+1)=((i+1:Nat):Int):=by rw[IntKind.wrap_i64];omega
  by_cases hlt:i<K.length
  ·have i1:(i:Int)<(K.length:Int):=by omega
   have i0:(0:Int)≤(i:Int):=by omega
   obtain⟨g1,rfl,a1,d1,s1, -⟩:=X1.out _ (drawn_below BB.out) i hlt
   obtain⟨g2,rfl,a2,d2,s2, -⟩:=X2.out _ (drawn_below BB.out) i hlt
   have hKi:=hk _ (List.getElem_mem hlt)
   go_wp2_with fail
   go_quiet (fail)
   go_wp2_with fail
   have BD:=Lib.hid (drawn_more BB.out nq)
   clear s1 s2 BB
   generalize wr.drewN nq=wy at *
   go_loopw [6] (fun z ws=>∃ j:Nat,z = .int .i64 (j:Int)∧j≤K[i].length∧Hid (∃ q,ws=w.drewN q)) (fun z _=>((K[i].length:Int)-intOf z).toNat)
   case atStart=>exact⟨0,rfl,by omega,BD⟩
   case round =>
    clear BD
    obtain⟨j,rfl,hj,BD⟩:=hrel
    have hjj:IntKind.i64.wrap ((j:Int)+1)=((j+1:Nat):Int):=by rw[IntKind.wrap_i64];omega
    obtain⟨_,e1,a1,d1,s1,r1⟩:=X1.out _ (drawn_below BD.out) i hlt
    cases e1
    obtain⟨_,e2,a2,d2,s2,r2⟩:=X2.out _ (drawn_below BD.out) i hlt
    cases e2
    by_cases hjl:j<K[i].length
    ·have j1:(j:Int)<(K[i].length:Int):=by omega
     have j0:(0:Int)≤(j:Int):=by omega
     obtain⟨b1,rfl,t1⟩:=row1 r1 hjl
     obtain⟨b2,rfl,t2⟩:=row1 r2 hjl
     go_wp2_with fail
     go_quiet (fail)
     go_wp2_with fail
     go_roundw
     case rel=>exact⟨j+1,rfl,by omega,Lib.hid (drawn_more BD.out _)⟩
     case measure=>simp[intOf];omega
    ·have j1:¬ (j:Int)<(K[i].length:Int):=by omega
     go_wp2_with fail
     go_roundw
     case rel=>exact⟨i+1,rfl,by omega,BD⟩
     case measure=>simp[intOf];omega
  ·obtain rfl:i=K.length:=by omega
   go_wp2_with fail
   refine bodyPost_ret (results_tmp rfl _ _ _) rfl ⟨rfl,BB.out⟩
end Tw
end Go.Proofs.YtdnogmanbdgadaaGreatDoor
