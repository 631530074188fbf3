/-
  Lemmas and walks, texts joined: WCmp, WRound, WShort, WRowM.
-/
import Derived.Deep.RegionHeld3
import Derived.Maps.AppendAt
import Derived.Deep.AppendLies
import Derived.Test.YtdnogmanbdgadaaGreatDoorTb14
set_option linter.unusedSimpArgs false
set_option linter.unusedVariables false
set_option maxRecDepth 100000
set_option maxHeartbeats 40000000
namespace Go.Proofs.YtdnogmanbdgadaaGreatDoor
namespace Wd
open Go.RowKit Lw Go.Shelf
attribute [local go_sem] Oper.semAt_some

def cmpN (X Y:Nat):Int:=if X<Y then -1 else if Y<X then 1 else 0
theorem cmp_lt {X Y:Nat} (h:X<Y):cmpN X Y = -1:=if_pos h
theorem cmp_gt {X Y:Nat} (h:Y<X):cmpN X Y=1:=by rw[cmpN,if_neg (by omega),if_pos h]
theorem cmp_eq (X:Nat):cmpN X X=0:=by rw[cmpN,if_neg (by omega),if_neg (by omega)]
theorem drop_dn {a b:List Nat} (hlen:a.length=b.length) {k:Nat} (hk:k≤a.length) (h:∀ x∈dn a.length k,a[x.1]=at0 b x.1):a.drop (a.length-k)=b.drop (a.length-k):=by
 apply List.ext_getElem
 ·simp;omega
 ·intro j h1 h2
  simp only[List.getElem_drop]
  have hj:a.length-k+j<a.length:=by simp at h1;omega
  have:=h ⟨a.length-k+j,hj⟩ ((dn_mem hk _).2 (by simp))
  rw[this,at0_in (by omega)]
theorem compare_walk (X Y:Nat) (A D:Option Addr) (na ca nb cb:Nat) (w:World) (hA:Lim w A na ca (canon X)) (hD:Lim w D nb cb (canon Y)) :
  Calls Tryz.prog 222 #[.slice A na ca, .slice D nb cb] w fun e w'=>e = .returned (.int .i64 (cmpN X Y))∧Below w.heap.size w w':=by
 have la:=hA.len
 have lb:=hD.len
 have sa:=hA.sm
 have sb:=hD.sm
 refine(callsIn_wide (n:=3)).1 ?_
 refine callsIn_of_wp_marks Tryz.func222 rfl trivial ?_ rfl
 simp only[Tryz.ntmps222,List.size_toArray,List.length_cons,List.length_nil,Nat.reduceAdd,Nat.reduceSub,Array.replicate_succ,Array.replicate_zero,List.push_toArray,List.append_toArray,List.nil_append,List.cons_append]
 by_cases hne:na=nb
 ·subst hne
  gi_wp2_with (refine⟨trivial,?_⟩;gi_at_call 238;refine(callsIn_wide.2 (down_walk _ _ _ _)).mono ?_;rintro e w' ⟨rfl,rfl⟩)
  have bR:=Boxed.new w 64 (.slice D na cb)
  have bC:=Boxed.new (w.alloc (.cells #[.slice D na cb] 64)) 3 (.int .i64 0)
  have bL:=Boxed.new ((w.alloc (.cells #[.slice D na cb] 64)).alloc (.cells #[.int .i64 0] 3)) 64 (.slice A na ca)
  simp only[World.size_alloc] at bC bL
  have hB0:Below w.heap.size w (((w.alloc (.cells #[.slice D na cb] 64)).alloc (.cells #[.int .i64 0] 3)).alloc (.cells #[.slice A na ca] 64)):=(((Below.refl _ w).alloc (Nat.le_refl _) _).alloc (by simp) _).alloc (by simp;omega) _
  refine wpIn_rangeFunc_ownG rfl (by omega) (gf:=249) (lb:=#[.pointer (some ⟨w.heap.size+1+1,0,none⟩)]) rfl trivial (enters_of Tryz.func249 (by kernel_rfl) rfl)
   (down_stops Fence.wide _ trivial rfl (by omega) (w.heap.size+1+1) (canon X) A na ca w _ hA hB0 bL) keepB_t (keepB_b (by simp;omega) (by simp)) (Below.refl _ _) (fun _=>rfl)
   (fun pre W=>((∀ x∈pre,(canon X)[x.1]=at0 (canon Y) x.1)∧W.cell? ⟨w.heap.size,0,none⟩=some (.slice D na cb)∧W.cell? ⟨w.heap.size+1,0,none⟩=some (.int .i64 0)∧W.frozen? ⟨w.heap.size+1,0,none⟩=false)∧Below w.heap.size w W)
   (fun c pre W=>(c = .ret ∧ ∃ ini last,pre=ini ++ [last]∧(∀ x∈ini,(canon X)[x.1]=at0 (canon Y) x.1)∧(((canon X)[last.1]<at0 (canon Y) last.1∧W.cell? ⟨w.heap.size+1,0,none⟩=some (.int .i64 (-1)))∨(at0 (canon Y) last.1<(canon X)[last.1]∧W.cell? ⟨w.heap.size+1,0,none⟩=some (.int .i64 1))))∧Below w.heap.size w W)
   (OwnFrom.and (Own.from (fun s A B row hs hg hr=>⟨hs.1,cell_kept hs.2.1 hg hr,cell_kept hs.2.2.1 hg hr,(frozen_kept hs.2.2.1 hg hr).trans hs.2.2.2⟩) _) (ownFrom_below (Nat.le_refl _) (by simp;omega)))
   (fun c=>OwnFrom.and (Own.from (fun s A B row hs hg hr=>by
    obtain⟨hc,ini,last,e1,e2,e3⟩:=hs
    refine⟨hc,ini,last,e1,e2,?_⟩
    rcases e3 with⟨g,h⟩|⟨g,h⟩
    ·exact .inl ⟨g,cell_kept h hg hr⟩
    ·exact .inr ⟨g,cell_kept h hg hr⟩) _) (ownFrom_below (Nat.le_refl _) (by simp;omega)))
   ⟨⟨by simp,((bR.alloc _).alloc _).cell,(bC.alloc _).cell,(bC.alloc _).frozen⟩,hB0⟩
   (fun x=>{ tmps:=#[.slice A na ca, .slice D na cb,undef, .pointer (some ⟨w.heap.size,0,none⟩), .pointer (some ⟨w.heap.size+1,0,none⟩), .int .i64 (x.1:Int), .int .u32 ((canon X)[x.1]:Int), .slice A na ca, .int .i64 na, .slice D na cb, .int .i64 na, .bool false,undef,undef,undef,undef,undef, .slice A na ca, .func (.func 249) #[] #[.pointer (some ⟨w.heap.size+1+1,0,none⟩)], .int .i64 (x.1:Int), .int .u32 ((canon X)[x.1]:Int),undef,undef,undef,undef,undef,undef,undef,undef,undef,undef,undef,undef],defers:=[] }) ?assign ?body ?done ?stop
  case assign =>
   intro l x W K hK
   dsimp only[dnEnc]
   gi_wp2
   exact hK
  case body =>
   rintro l pre x W ⟨⟨hp,hcb,hcr,hfr⟩,hB⟩ _
   have hx:=x.2
   have hDw:=hD.below hB
   obtain⟨bD,oD,rfl, -, -⟩:=hDw.row (by omega)
   have cD:=hDw.cell (k:=x.1) (by omega)
   have ey:=at0_in (b:=canon Y) (i:=x.1) (by omega)
   have x1:(x.1:Int)<(na:Int):=by omega
   rw[← ey] at cD
   generalize hxv:(canon X)[x.1]=xv
   generalize hyv:at0 (canon Y) x.1=yv at cD
   have KX:∀ pre':List (Fin (canon X).length),pre'=pre → ∀ z∈pre',(canon X)[z.1]=at0 (canon Y) z.1:=fun _ e=>by rw[e];exact hp
   have Hxv:=Lib.hid hxv
   have Hyv:=Lib.hid hyv
   have HP:=Lib.hid hp
   clear hp hDw hxv hyv KX ey
   gi_wp2
   ·have h1:xv<yv:=by omega
    rw[← Hxv.out,← Hyv.out] at h1
    exact⟨(KeepsOthers.setCell _ _ _).from _,⟨rfl,pre,x,rfl,HP.out, .inl ⟨h1,World.cell?_setCell_same' _ _ _ (by rw[hcr];rfl)⟩⟩,hB.setCell (p:=⟨w.heap.size+1,0,none⟩) (by simp) _⟩
   ·have h1:yv<xv:=by omega
    rw[← Hxv.out,← Hyv.out] at h1
    exact⟨(KeepsOthers.setCell _ _ _).from _,⟨rfl,pre,x,rfl,HP.out, .inr ⟨h1,World.cell?_setCell_same' _ _ _ (by rw[hcr];rfl)⟩⟩,hB.setCell (p:=⟨w.heap.size+1,0,none⟩) (by simp) _⟩
   ·have h1:xv=yv:=by omega
    rw[← Hxv.out,← Hyv.out] at h1
    refine⟨KeepsFrom.refl _ _,⟨Below.refl _ _,rfl⟩,⟨fun z hz=>?_,hcb,hcr,hfr⟩,hB⟩
    rcases List.mem_append.1 hz with hz|hz
    ·exact HP.out z hz
    ·rw[List.mem_singleton.1 hz];exact h1
  case done =>
   rintro D' ys W hD' rfl ⟨⟨hne,_,hcr,hfr⟩,hB⟩ hK
   have hXY:X=Y:=by
    have:=drop_dn (a:=canon X) (b:=canon Y) (by omega) (Nat.le_refl _) hne
    simp only[Nat.sub_self,List.drop_zero] at this
    rw[← val_canon X,this,val_canon]
   have HXY:=Lib.hid hXY
   clear hXY hne
   gi_wp2
   have hK':=(KeepsOthers.setCell W ⟨w.heap.size+1,0,none⟩ (.int .i64 0)).same D' _ hK rfl
   refine⟨by simp, .inl ⟨_,_,rfl,run_takeDeferred hK',?_⟩⟩
   have hc5:=cell_kept (World.cell?_setCell_same' W ⟨w.heap.size+1,0,none⟩ (.int .i64 0) (by rw[hcr];rfl)) (grownBy_putObj' _ D' (.deferred none)) (fun r e=>by cases e;exact⟨_,hK',rfl⟩)
   refine⟨.int .i64 0,?_,by rw[HXY.out,cmp_eq],(hB.setCell (p:=⟨w.heap.size+1,0,none⟩) (by simp) _).trans (belowK_b (w:=w) (Nat.le_refl _) _ D' _ _ (by simp at hD';omega) hK' rfl rfl)⟩
   simp[results,Tryz.f222,go_sem,hc5]
  case stop =>
   rintro D' c pre W hD' ⟨k,hk,rfl⟩ ⟨⟨rfl,ini,last,e1,e2,e3⟩,hB⟩ hK
   obtain⟨k',rfl⟩:∃ k',k=k'+1:=by
    cases k with
    | zero=>simp[dn] at e1
    | succ k'=>exact⟨k',rfl⟩
   rw[dn_succ (by omega)] at e1
   obtain⟨rfl,e5⟩:=List.append_inj' e1 rfl
   have e6:last.1=na-1-k':=by
    have:(⟨(canon X).length-1-k',by omega⟩:Fin (canon X).length)=last:=by simpa using e5
    rw[← this];simp only;omega
   have e7:=drop_dn (a:=canon X) (b:=canon Y) (by omega) (by omega) e2
   rw[show (canon X).length-k'=last.1+1 by omega] at e7
   have lx:=last.2
   have hres:∃ r,cmpN X Y=r∧W.cell? ⟨w.heap.size+1,0,none⟩=some (.int .i64 r):=by
    rcases e3 with⟨g,h⟩|⟨g,h⟩
    ·rw[at0_in (by omega)] at g
     have:=lt_of_top (lb_canon X) (by omega) lx e7 g
     rw[val_canon,val_canon] at this
     exact⟨-1,cmp_lt this,h⟩
    ·rw[at0_in (by omega)] at g
     have:=lt_of_top (lb_canon Y) (by omega) (show last.1<(canon Y).length by omega) e7.symm g
     rw[val_canon,val_canon] at this
     exact⟨1,cmp_gt this,h⟩
   obtain⟨r,hr,hcr⟩:=hres
   have Hr:=Lib.hid hr
   clear hr e1 e2 e3 e5 e6 e7
   gi_wp2
   refine⟨by simp, .inl ⟨_,_,rfl,run_takeDeferred hK,?_⟩⟩
   have hc5:=cell_kept hcr (grownBy_putObj' _ D' (.deferred none)) (fun r e=>by cases e;exact⟨_,hK,rfl⟩)
   refine⟨.int .i64 r,?_,by rw[Hr.out],hB.trans (belowK_b (w:=w) (Nat.le_refl _) W D' _ _ (by simp at hD';omega) hK rfl rfl)⟩
   simp[results,Tryz.f222,go_sem,hc5]
 ·have ne1:¬ (na:Int)=(nb:Int):=by omega
  have hB0:∀ v,Below w.heap.size w ((w.alloc (.cells #[.slice D nb cb] 64)).alloc (.cells #[v] 3)):=fun v=>((Below.refl _ w).alloc (Nat.le_refl _) _).alloc (by simp) _
  have HB:=Lib.hid hB0
  clear hB0
  rcases Nat.lt_or_gt_of_ne hne with g|g
  ·have hc:=Lib.hid (cmp_lt (canon_lt_of_len (A:=X) (B:=Y) (by omega)))
   have g1:(na:Int)<(nb:Int):=by omega
   clear hA hD la lb
   gi_wp2
   refine⟨.int .i64 (-1),?_,by rw[hc.out],HB.out _⟩
   simp[results,Tryz.f222,go_sem]
  ·have hc:=Lib.hid (cmp_gt (canon_lt_of_len (A:=Y) (B:=X) (by omega)))
   have g1:¬ (na:Int)<(nb:Int):=by omega
   clear hA hD la lb
   gi_wp2
   refine⟨.int .i64 1,?_,by rw[hc.out],HB.out _⟩
   simp[results,Tryz.f222,go_sem]
end Wd
namespace Wd
open Go.RowKit

section
variable {P : Program} {ops : Array Oper} {Q : Exit → Act → World → Prop} {md : Region.Mode} {S : World → Prop} {l n : Nat}

def noDefer (ops:Array Oper):Bool:=ops.all fun o=>match o.op with | .defer _=>false|_=>true
theorem noDefer_spec (h:noDefer ops=true) {i:Nat} {o:Oper} (hi:ops[i]? = some o):∀ c,o.op ≠ .defer c:=by
 intro c hc
 have:=Array.all_eq_true.1 h
 obtain⟨hlt,he⟩:=Array.getElem?_eq_some_iff.1 hi
 have h2:=this i hlt
 rw[he,hc] at h2
 cases h2
theorem wpOp_toIn (hnd:noDefer ops=true) (hL:¬ LetsOut Q) {i:Nat} {K K':Act→World→Prop} (hK:∀ a w,K a w→K' a w) {a:Act} {w:World} (h:wpOp P ops Q i K a w):wpOpIn (Fence.wide.inRound l) n P ops Q i K' a w:=by
 unfold wpOp at h
 unfold wpOpIn
 cases ho:ops[i]? with
 | none=>simp only[ho] at h ⊢;exact hK _ _ h
 | some o =>
  simp only[ho] at h ⊢
  by_cases hw:Region.wanted o (yielded ops a.tmps)=true
  ·simp only[hw,if_true] at h ⊢
   rcases h with h|h
   ·refine⟨fun _ _=>trivial,?_⟩
    rw[Oper.semAt_eq _ _ _ (noDefer_spec hnd ho)]
    unfold Oper.wp at h
    generalize (execOp a.eval o).run P w=r at *
    cases r with
    | ok x w' =>
     cases x <;> simp only[Oper.upon,Oper.uponIn] at h ⊢ <;> first|exact hK _ _ h|exact h|skip
     ·refine⟨(fun e=>by cases e),CallsIn.inRound l (callsIn_wide.2 (h.mono fun e w'' he=>?_))⟩
      cases e <;> first|exact hK _ _ he|exact he
     ·exact⟨(fun e=>by cases e),fun c cs _=>let ⟨v,w'',r,s⟩:=h c cs;⟨v,w'',hK _ _ r,stepsIn_wide.2 s⟩⟩
    | halt x w'=>cases x <;> simp only[Oper.upon,Oper.uponIn] at h ⊢ <;> exact h
   ·exact absurd h.2 hL
  ·simp only[hw,if_false] at h ⊢
   exact⟨fun _ _=>trivial,hK _ _ h⟩
theorem wpAny_toIn (hnd:noDefer ops=true) (hL:¬ LetsOut Q):∀ (fuel:Nat) (listed:Array Bool) (a:Act) (w:World),wpAny P md ops Q fuel listed a w→wpAnyIn (Fence.wide.inRound l) n P md ops Q fuel listed a w
 | 0,_,_,_,h=>h
 | fuel+1,listed,a,w,h=>⟨h.1,fun i hi=>wpOp_toIn hnd hL (fun a w=>wpAny_toIn hnd hL fuel _ a w) (h.2 i hi)⟩
theorem round_region {id:Nat} {a:Act} {w:World} (hm:P.follows .mixedOrders=true) (hnd:noDefer ops=true) (hL:¬ LetsOut Q) (hS:S w.drew)
  (h:S w.drew→wpAnyH P .any ops Q S ops.size (Array.replicate ops.size false) a w.drew):(Code.region id ops true).wpIn (Fence.wide.inRound l) n P Q a w :=
 wpIn_region_any hm (wpAny_toIn hnd hL _ _ _ _ (wpAny_of_held _ _ _ _ (h hS)))
theorem take_at (i:Nat) (dst:Option Tmp) (v:Value) {oi:Oper} {fuel:Nat} {listed:Array Bool} {a:Act} {w:World} (hi:ops[i]? = some oi) (hd:oi.dst=dst)
  (hs:Region.noSelect ops=true) (hf:Region.free md ops listed i=true) (hr:(Region.ready md ops listed).contains i=true)
  (hQ:∀ c a w,Q (.panic c) (a.put oi.dst v) w→Q (.panic c) a w) (hy:YieldsIf P ops S oi v a) (hS:S w)
  (h:wpAnyH P md ops Q S fuel (listed.setIfInBounds i true) (a.put dst v) w):wpAnyH P md ops Q S (fuel+1) listed a w :=
 wpAnyH_take hi hs hf hr hQ hy hS (by rw[hd];exact h)
end
end Wd
namespace Wd
open Go.RowKit Lw Go.Shelf
attribute [local go_sem] Oper.semAt_some

theorem Arr.own {A B:World} {g:Nat} {L:List Nat} {row:Option Nat} (h:Arr A g L) (hg:A.grownBy B row) (hr:∀ r,row=some r → ∃ o:Obj,A.heap[r]? = some o∧o.isCells=false):Arr B g L:=by
 unfold Arr at h ⊢
 refine(hg.block g (lt_of_block h) fun e=>?_).trans h
 obtain⟨o,ho,hc⟩:=hr g e.symm
 rw[h] at ho
 cases ho
 cases hc
theorem Arr.drewN {w:World} {g:Nat} {L:List Nat} (h:Arr w g L) (n:Nat):Arr (w.drewN n) g L:=h
theorem Arr.drew {w:World} {g:Nat} {L:List Nat} (h:Arr w g L):Arr w.drew g L:=h
theorem Boxed.own {A B:World} {b:Nat} {t:TypeId} {v:Value} {row:Option Nat} (h:Boxed A b t v) (hg:A.grownBy B row) (hr:∀ r,row=some r → ∃ o:Obj,A.heap[r]? = some o∧o.isCells=false):Boxed B b t v:=by
 refine h.kept hg fun e=>?_
 obtain⟨o,ho,hc⟩:=hr b e.symm
 rw[show A.heap[b]? = _ from h] at ho
 cases ho
 cases hc
theorem grownBy_set2 (W:World) (b o:Nat) (v:Value):W.grownBy (W.setCell ⟨b,o,none⟩ v) (some b) :=
 ⟨rfl,rfl,rfl,(KeepsWalks.setCell W _ v).size,fun k _ hk=>Below.heap_setCell _ _ _ k (fun e=>hk (by rw[e]))⟩
theorem Lim.own {A B:World} {a:Option Addr} {n cap:Nat} {l:List Nat} {row:Option Nat} (h:Lim A a n cap l) (hg:A.grownBy B row) (hr:∀ r,row=some r → ∃ o:Obj,A.heap[r]? = some o∧o.isCells=false):Lim B a n cap l :=
 ⟨h.len,h.lb,h.cp,h.sm,fun p=>by
  obtain⟨b,off,e,lt,r⟩:=h.row p
  exact⟨b,off,e,Nat.lt_of_lt_of_le lt hg.size,fun j v hv=>cell_kept (r j v hv) hg hr⟩⟩
structure SH (l:List Nat) (d g n:Nat) (pre:List (Fin l.length)) (W:World) (L:List Nat) (r:Nat):Prop where
 arr:Arr W g L
 len:L.length=n
 lb:Lb L
 r1:r<d
 v:pre=dn l.length pre.length→DIn l L d (l.length-pre.length) r
theorem dn_take {n:Nat} {pre:List (Fin n)} {x:Fin n} (h:pre ++ [x]=dn n (pre ++ [x]).length):pre=dn n pre.length∧x.1+pre.length+1=n:=by
 rw[List.length_append,List.length_singleton] at h
 have hk:pre.length<n:=by
  rcases Nat.lt_or_ge pre.length n with g|g
  ·exact g
  ·have:∀ k,n≤k→(dn n k).length≤n:=by
    intro k hk
    induction k with
    | zero=>simp[dn]
    | succ k ih =>
     rw[dn]
     by_cases hlt:k<n
     ·have:=dn_len (n:=n) (k:=k+1) (by omega)
      rw[dn] at this
      omega
     ·rw[dif_neg hlt];exact ih (by omega)
   have h2:=congrArg List.length h
   rw[List.length_append,List.length_singleton] at h2
   have:=this (pre.length+1) (by omega)
   omega
 rw[dn_succ hk] at h
 obtain⟨h1,h2⟩:=List.append_inj' h rfl
 refine⟨h1,?_⟩
 have:x=⟨n-1-pre.length,by omega⟩:=by simpa using h2
 rw[this];simp only;omega
theorem SH.own {l:List Nat} {d g n:Nat} {pre:List (Fin l.length)} {A B:World} {L:List Nat} {r:Nat} {row:Option Nat} (h:SH l d g n pre A L r) (hg:A.grownBy B row) (hr:∀ r,row=some r → ∃ o:Obj,A.heap[r]? = some o∧o.isCells=false):SH l d g n pre B L r:=⟨h.arr.own hg hr,h.len,h.lb,h.r1,h.v⟩
theorem SH.zero (l:List Nat) {d g n:Nat} (hn:l.length=n) (hd:0<d) {W:World} (hA:Arr W g (List.replicate n 0)):SH l d g n [] W (List.replicate n 0) 0 :=
 ⟨hA,by simp,lb_zeros _,hd,fun _=>by have:=DIn.zero l hd;rw[hn] at this ⊢;exact this⟩
theorem SH.step {l:List Nat} {d g n:Nat} {pre:List (Fin l.length)} {W W':World} {L:List Nat} {r:Nat} (h:SH l d g n pre W L r) (hl:Lb l) (hd:d≤4294967296) (hn:l.length=n) (x:Fin l.length) (hA:Arr W' g (L.set x.1 ((r*4294967296+l[x.1])/d))) :
  SH l d g n (pre ++ [x]) W' (L.set x.1 ((r*4294967296+l[x.1])/d)) ((r*4294967296+l[x.1]) % d):=by
 refine⟨hA,by simpa using h.len,lb_set h.lb _ _ (quo_lt h.r1 (lb_get hl x.2)),Nat.mod_lt _ (Nat.lt_of_le_of_lt (Nat.zero_le _) h.r1),fun e=>?_⟩
 obtain⟨e1,e2⟩:=dn_take e
 have hv:=h.v e1
 rw[show l.length-pre.length=x.1+1 by omega] at hv
 have:=hv.step x.2 hl
 rw[List.length_append,List.length_singleton,show l.length-(pre.length+1)=x.1 by omega]
 exact this
theorem short_walk (l:List Nat) (A:Option Addr) (n cap d:Nat) (w:World) (hA:Lim w A n cap l) (hd0:0<d) (hd:d<4294967296) :
  Calls Tryz.prog 229 #[.slice A n cap, .int .u32 (d:Int)] w fun e w'=>e = .returned (.tuple #[.slice (some ⟨w.heap.size+1,0,none⟩) (canon (val l/d)).length n, .int .u32 ((val l % d:Nat):Int)])∧Lim w' (some ⟨w.heap.size+1,0,none⟩) (canon (val l/d)).length n (canon (val l/d))∧Below w.heap.size w w':=by
 have la:=hA.len
 have sa:=hA.sm
 have hmk:=make_nu n sa
 refine(callsIn_wide (n:=3)).1 ?_
 refine callsIn_of_wp_marks Tryz.func229 rfl trivial ?_ rfl
 simp only[Tryz.ntmps229,List.size_toArray,List.length_cons,List.length_nil,Nat.reduceAdd,Nat.reduceSub,Array.replicate_succ,Array.replicate_zero,List.push_toArray,List.append_toArray,List.nil_append,List.cons_append]
 gi_wp2_with (refine⟨trivial,?_⟩;gi_at_call 238;refine(callsIn_wide.2 (down_walk _ _ _ _)).mono ?_;rintro e w' ⟨rfl,rfl⟩)
 have bD:=Boxed.new w 170 (.int .u32 (d:Int))
 have aG:=Arr.nu (w.alloc (.cells #[.int .u32 (d:Int)] 170)) n
 have bO:=Boxed.new ((w.alloc (.cells #[.int .u32 (d:Int)] 170)).alloc (.cells (nu n) 170)) 64 (.slice (some ⟨w.heap.size+1,0,none⟩) n n)
 have bR:=Boxed.new (((w.alloc (.cells #[.int .u32 (d:Int)] 170)).alloc (.cells (nu n) 170)).alloc (.cells #[.slice (some ⟨w.heap.size+1,0,none⟩) n n] 64)) 170 (.int .u32 0)
 have bL:=Boxed.new ((((w.alloc (.cells #[.int .u32 (d:Int)] 170)).alloc (.cells (nu n) 170)).alloc (.cells #[.slice (some ⟨w.heap.size+1,0,none⟩) n n] 64)).alloc (.cells #[.int .u32 0] 170)) 64 (.slice A n cap)
 simp only[World.size_alloc] at aG bO bR bL
 have aG2:=((aG.below ((Below.refl _ _).alloc (Nat.le_refl _) (.cells #[.slice (some ⟨w.heap.size+1,0,none⟩) n n] 64))).below ((Below.refl _ _).alloc (Nat.le_refl _) (.cells #[.int .u32 0] 170))).below ((Below.refl _ _).alloc (Nat.le_refl _) (.cells #[.slice A n cap] 64))
 have hB0:Below w.heap.size w (((((w.alloc (.cells #[.int .u32 (d:Int)] 170)).alloc (.cells (nu n) 170)).alloc (.cells #[.slice (some ⟨w.heap.size+1,0,none⟩) n n] 64)).alloc (.cells #[.int .u32 0] 170)).alloc (.cells #[.slice A n cap] 64)) :=
  (((((Below.refl _ w).alloc (Nat.le_refl _) _).alloc (by simp) _).alloc (by simp;omega) _).alloc (by simp;omega) _).alloc (by simp;omega) _
 have bD2:=(((bD.alloc (.cells (nu n) 170)).alloc (.cells #[.slice (some ⟨w.heap.size+1,0,none⟩) n n] 64)).alloc (.cells #[.int .u32 0] 170)).alloc (.cells #[.slice A n cap] 64)
 have bO2:=(bO.alloc (.cells #[.int .u32 0] 170)).alloc (.cells #[.slice A n cap] 64)
 have bR2:=bR.alloc (.cells #[.slice A n cap] 64)
 have hmx:Tryz.prog.follows .mixedOrders=true:=by kernel_rfl
 refine wpIn_rangeFunc_ownG rfl (by omega) (gf:=249) (lb:=#[.pointer (some ⟨w.heap.size+1+1+1+1,0,none⟩)]) rfl trivial (enters_of Tryz.func249 (by kernel_rfl) rfl)
  (down_stops Fence.wide _ trivial rfl (by omega) (w.heap.size+1+1+1+1) l A n cap w _ hA hB0 bL) keepB_t (keepB_b (by simp;omega) (by simp)) (Below.refl _ _) (fun _=>rfl)
  (fun pre W=>(∃ L r,SH l d (w.heap.size+1) n pre W L r∧Boxed W w.heap.size 170 (.int .u32 (d:Int))∧Boxed W (w.heap.size+1+1) 64 (.slice (some ⟨w.heap.size+1,0,none⟩) n n)∧Boxed W (w.heap.size+1+1+1) 170 (.int .u32 (r:Int)))∧Below w.heap.size w W)
  (fun _ _ _=>False)
  (OwnFrom.and (Own.from (fun s A B row hs hg hr=>by obtain⟨L,r,h1,h2,h3,h4⟩:=hs;exact⟨L,r,h1.own hg hr,Boxed.own h2 hg hr,Boxed.own h3 hg hr,Boxed.own h4 hg hr⟩) _) (ownFrom_below (Nat.le_refl _) (by simp;omega)))
  (fun _ _ _ _ _ hs _ _=>hs)
  ⟨⟨_,0,SH.zero l la hd0 aG2,bD2,bO2,bR2⟩,hB0⟩
  (fun x=>{ tmps:=#[.slice A n cap, .int .u32 (d:Int),undef, .pointer (some ⟨w.heap.size,0,none⟩), .slice none 0 0, .int .u32 0, .pointer (some ⟨w.heap.size+1+1,0,none⟩), .pointer (some ⟨w.heap.size+1+1+1,0,none⟩), .int .i64 (x.1:Int), .int .u32 (l[x.1]:Int), .slice A n cap, .int .i64 n, .slice (some ⟨w.heap.size+1,0,none⟩) n n, .slice A n cap, .func (.func 249) #[] #[.pointer (some ⟨w.heap.size+1+1+1+1,0,none⟩)], .int .i64 (x.1:Int), .int .u32 (l[x.1]:Int),undef,undef,undef,undef,undef,undef,undef,undef,undef,undef,undef,undef,undef],defers:=[] }) ?assign ?body ?done ?stop
 case assign =>
  intro l x W K hK
  dsimp only[dnEnc]
  gi_wp2
  exact hK
 case body =>
  rintro lp pre x W ⟨⟨L,r,hS,hbD,hbO,hbR⟩,hB⟩ _
  have hx:=x.2
  have c1:=hbD.cell
  have c2:=hbO.cell
  have c3:=hbR.cell
  have f3:=hbR.frozen
  obtain⟨lx,c4⟩:∃ lx:Nat,W.cell? ⟨w.heap.size+1,x.1,none⟩=some (.int .u32 (lx:Int)):=⟨_,hS.arr.cell (k:=x.1) (by rw[hS.len];omega)⟩
  have f4:=hS.arr.free x.1
  have x1:(x.1:Int)<(n:Int):=by omega
  have dv:=fun W=>div32 r l[x.1] d W hS.r1 (lb_get hA.lb x.2) hd
  have st:=fun W' hA'=>hS.step hA.lb (Nat.le_of_lt hd) la x (W':=W') hA'
  generalize hq:(r*4294967296+l[x.1])/d=q at dv st
  generalize hm:(r*4294967296+l[x.1]) % d=m at dv st
  generalize hxv:l[x.1]=xv at *
  have St:=Lib.hid st
  have HS:=Lib.hid hS
  have HB:=Lib.hid hB
  clear st hS hq hm hxv hB bD aG bO bR bL aG2 hB0 bD2 bO2 bR2 hmk
  gi_wp2
  refine round_region (S:=fun w'=>w'.cell? ⟨w.heap.size,0,none⟩=some (.int .u32 (d:Int))∧w'.cell? ⟨w.heap.size+1+1,0,none⟩=some (.slice (some ⟨w.heap.size+1,0,none⟩) n n)) hmx (by kernel_rfl) (fun h=>by obtain⟨_,_,h⟩:=h;exact h) ⟨c1,c2⟩ (fun hHeld=>?_)
  refine take_at 0 (some 18) (.slice (some ⟨w.heap.size+1,0,none⟩) n n) rfl rfl (by kernel_rfl) (by kernel_rfl) (by kernel_rfl) (fun _ _ _ h=>h) (Or.inl ⟨by rfl,?_⟩) (by assumption) ?_
  ·intro w hSw
   go_simp
   try with_reducible rfl
  simp only[Act.put,List.setIfInBounds_toArray,List.set_cons_zero,List.set_cons_succ]
  refine take_at 1 (some 19) (.int .i64 (x.1:Int)) rfl rfl (by kernel_rfl) (by kernel_rfl) (by kernel_rfl) (fun _ _ _ h=>h) (Or.inl ⟨by rfl,?_⟩) (by assumption) ?_
  ·intro w hSw
   go_simp
   try with_reducible rfl
  simp only[Act.put,List.setIfInBounds_toArray,List.set_cons_zero,List.set_cons_succ]
  refine take_at 3 (some 21) (.int .u32 (xv:Int)) rfl rfl (by kernel_rfl) (by kernel_rfl) (by kernel_rfl) (fun _ _ _ h=>h) (Or.inl ⟨by rfl,?_⟩) (by assumption) ?_
  ·intro w hSw
   go_simp
   try with_reducible rfl
  simp only[Act.put,List.setIfInBounds_toArray,List.set_cons_zero,List.set_cons_succ]
  refine take_at 4 (some 22) (.int .u32 (d:Int)) rfl rfl (by kernel_rfl) (by kernel_rfl) (by kernel_rfl) (fun _ _ _ h=>h) (Or.inl ⟨by rfl,?_⟩) (by assumption) ?_
  ·intro w hSw
   go_simp
   try with_reducible rfl
  simp only[Act.put,List.setIfInBounds_toArray,List.set_cons_zero,List.set_cons_succ]
  refine wpAnyH_ready (rs:=[2]) (by kernel_rfl) (by simp) ?_
  refine AllReadyH.cons rfl (fun K hK=>?_) AllReadyH.nil
  go_simp
  refine hK.out _ _ hHeld (fun hHeld=>?_)
  clear hK K
  try simp only[Act.put,Lw.s1,Lw.s2,Lw.s3]
  refine wpAnyH_ready (rs:=[5]) (by kernel_rfl) (by simp) ?_
  refine AllReadyH.cons rfl (fun K hK=>?_) AllReadyH.nil
  go_simp
  go_at_call 245
  refine(dv _).mono ?_
  rintro e w' ⟨rfl,nn,rfl⟩
  dsimp only
  refine hK.out _ _ ⟨c1,c2⟩ (fun hHeld=>?_)
  clear hK K
  try simp only[Act.put,Lw.s1,Lw.s2,Lw.s3]
  refine take_at 6 (some 17) (.tuple #[.int .u32 (q:Int), .int .u32 (m:Int)]) rfl rfl (by kernel_rfl) (by kernel_rfl) (by kernel_rfl) (fun _ _ _ h=>h) (Or.inl ⟨by rfl,?_⟩) (by assumption) ?_
  ·intro w hSw
   go_simp
   try with_reducible rfl
  simp only[Act.put,List.setIfInBounds_toArray,List.set_cons_zero,List.set_cons_succ]
  refine take_at 7 (some 24) (.int .u32 (q:Int)) rfl rfl (by kernel_rfl) (by kernel_rfl) (by kernel_rfl) (fun _ _ _ h=>h) (Or.inl ⟨by rfl,?_⟩) (by assumption) ?_
  ·intro w hSw
   go_simp
   try with_reducible rfl
  simp only[Act.put,List.setIfInBounds_toArray,List.set_cons_zero,List.set_cons_succ]
  refine take_at 8 (some 25) (.int .u32 (m:Int)) rfl rfl (by kernel_rfl) (by kernel_rfl) (by kernel_rfl) (fun _ _ _ h=>h) (Or.inl ⟨by rfl,?_⟩) (by assumption) ?_
  ·intro w hSw
   go_simp
   try with_reducible rfl
  simp only[Act.put,List.setIfInBounds_toArray,List.set_cons_zero,List.set_cons_succ]
  refine take_at 9 (some 26) (.pointer (some ⟨w.heap.size+1,x.1,none⟩)) rfl rfl (by kernel_rfl) (by kernel_rfl) (by kernel_rfl) (fun _ _ _ h=>h) (Or.inl ⟨by rfl,?_⟩) (by assumption) ?_
  ·intro w hSw
   go_simp
   try with_reducible rfl
  simp only[Act.put,List.setIfInBounds_toArray,List.set_cons_zero,List.set_cons_succ]
  refine wpAnyH_ready (rs:=[10]) (by kernel_rfl) (by simp) ?_
  refine AllReadyH.cons rfl (fun K hK=>?_) AllReadyH.nil
  go_simp
  refine hK.out _ _ ⟨(World.cell?_setCell_far _ _ _ _ (by simp <;> omega)).trans hHeld.1,(World.cell?_setCell_far _ _ _ _ (by simp <;> omega)).trans hHeld.2⟩ (fun hHeld=>?_)
  clear hK K
  try simp only[Act.put,Lw.s1,Lw.s2,Lw.s3]
  refine wpAnyH_ready (rs:=[11]) (by kernel_rfl) (by simp) ?_
  refine AllReadyH.cons rfl (fun K hK=>?_) AllReadyH.nil
  go_simp
  refine hK.out _ _ ⟨(World.cell?_setCell_far _ _ _ _ (by simp <;> omega)).trans hHeld.1,(World.cell?_setCell_far _ _ _ _ (by simp <;> omega)).trans hHeld.2⟩ (fun hHeld=>?_)
  clear hK K
  try simp only[Act.put,Lw.s1,Lw.s2,Lw.s3]
  refine wpAnyH_done (by kernel_rfl) ?_ _
  gi_wp2
  clear hHeld c1 c2 c3 c4 f3 f4 dv
  have ko:KeepsOthers W (W.drewN (1+nn)):=⟨Nat.le_refl _,fun _ _ h _=>h⟩
  refine⟨((ko.trans (KeepsOthers.setCell _ _ _)).trans (KeepsOthers.setCell _ _ _)).from _,⟨((below_drewN (Below.refl _ W) _).setCell (p:=⟨w.heap.size+1,x.1,none⟩) (by simp) _).setCell (p:=⟨w.heap.size+1+1+1,0,none⟩) (by simp;omega) _,?_⟩,⟨_,_,St.out _ ?_,?_,?_,?_⟩,((below_drewN HB.out _).setCell (p:=⟨w.heap.size+1,x.1,none⟩) (by simp) _).setCell (p:=⟨w.heap.size+1+1+1,0,none⟩) (by simp;omega) _⟩
  ·rw[Below.heap_setCell _ _ _ _ (by simp),Below.heap_setCell _ _ _ _ (by simp;omega)];rfl
  ·exact((HS.out.arr.drewN _).set x.1 q).other (by simp;omega) _
  ·exact((show Boxed (W.drewN (1+nn)) _ _ _ from hbD).kept (grownBy_set2 _ _ _ _) (by simp)).other (by omega) _
  ·exact((show Boxed (W.drewN (1+nn)) _ _ _ from hbO).kept (grownBy_set2 _ _ _ _) (by simp)).other (by omega) _
  ·exact Boxed.set _ ((show Boxed (W.drewN (1+nn)) _ _ _ from hbR).kept (grownBy_set2 _ _ _ _) (by simp;omega))
 case done =>
  rintro D ys W hD rfl ⟨⟨L,r,hS,hbD,hbO,hbR⟩,hB⟩ hK
  have hv:=hS.v (by rw[dn_len (Nat.le_refl _)])
  rw[dn_len (Nat.le_refl _),Nat.sub_self] at hv
  obtain⟨v1,v2⟩:=hv.fin
  have hlim:=hS.arr.lim (cap:=n) hS.lb (by rw[hS.len];exact Nat.le_refl _) (by rw[hS.len];exact sa)
  rw[hS.len] at hlim
  have tr:=fun W' h=>trim_walk L (some ⟨w.heap.size+1,0,none⟩) n n W' h
  rw[v1] at tr
  have Tr:=Lib.hid tr
  have HL:=Lib.hid hlim
  have hlt:=hlim.trim
  rw[v1] at hlt
  have HLT:=Lib.hid hlt
  have KT:=Lib.hid (fun k=>(hlim.below (below_drewN (Below.refl _ W) k)))
  have V2:=Lib.hid v2
  have HB:=Lib.hid hB
  have c2:=hbO.cell
  have c3:=hbR.cell
  clear hv v1 v2 hlim tr hlt hB hS
  gi_wp2
  refine wpIn_wide.2 ?_
  have hlw:=HL.out.below (Below.refl _ W).drew
  go_region_held3 (fun w'=>w'.cell? ⟨w.heap.size+1+1,0,none⟩=some (.slice (some ⟨w.heap.size+1,0,none⟩) n n)∧w'.cell? ⟨w.heap.size+1+1+1,0,none⟩=some (.int .u32 (r:Int))∧Lim w' (some ⟨w.heap.size+1,0,none⟩) n n L) (first|exact⟨c2,c3,hlw⟩|assumption) (first|(go_at_call 191;refine(Tr.out _ (And.right (And.right (by assumption)))).mono ?_;rintro e w' ⟨rfl,rfl⟩))
  all_goals gi_wp2
  all_goals
   refine⟨by simp, .inl ⟨_,_,rfl,run_takeDeferred (w:=W.drew) hK,?_⟩⟩
   refine⟨_,results_tmp2 rfl _ _ _,?_,(HLT.out.below (Below.refl _ W).drew).own (grownBy_putObj' _ D (.deferred none)) (fun r e=>by cases e;exact⟨_,hK,rfl⟩),HB.out.drew.trans (belowK_b (w:=w) (Nat.le_refl _) W.drew D _ _ (by simp at hD;omega) hK rfl rfl)⟩
   rw[← V2.out]
   rfl
 case stop =>
  rintro D c pre W _ _ h _
  exact h.elim
end Wd
namespace Wd
open Go.RowKit Lw

def Row (w:World) (g:Nat) (L:List Nat):Prop:=∃ cur:Array Value,w.heap[g]? = some (.cells cur 170 (0,0))∧cur.toList.take L.length=us L
theorem Row.lt {w:World} {g:Nat} {L:List Nat} (h:Row w g L):g<w.heap.size:=by obtain⟨c,h,_⟩:=h;exact lt_of_block h
theorem row_get {L:List Nat} {cur:Array Value} (h:cur.toList.take L.length=us L) {k:Nat} (hk:k<L.length):cur[k]? = some (.int .u32 (L[k]:Int)):=by
 have e:=congrArg (·[k]?) h
 simp only[List.getElem?_take_of_lt hk] at e
 simpa [us,hk] using e
theorem Row.cell {w:World} {g:Nat} {L:List Nat} (h:Row w g L) {k:Nat} (hk:k<L.length):w.cell? ⟨g,k,none⟩=some (.int .u32 (L[k]:Int)):=by
 obtain⟨c,h,e⟩:=h
 have:=row_get e hk
 simp only[World.cell?,h]
 simpa using this
theorem Row.free {w:World} {g:Nat} {L:List Nat} (h:Row w g L) (k:Nat):w.frozen? ⟨g,k,none⟩=false:=by
 obtain⟨c,h,_⟩:=h
 simp[World.frozen?,h]
theorem Row.set {w:World} {g:Nat} {L:List Nat} (h:Row w g L) (k v:Nat):Row (w.setCell ⟨g,k,none⟩ (.int .u32 (v:Int))) g (L.set k v):=by
 have hlt:=h.lt
 obtain⟨c,h,e⟩:=h
 have h':w.heap[g] = .cells c 170 (0,0):=by simpa [Array.getElem?_eq_getElem hlt] using h
 refine⟨c.set! k (.int .u32 (v:Int)),?_,?_⟩
 ·show (w.heap.modify g _)[g]? = _
  rw[Array.getElem?_eq_getElem (by simpa using hlt),Array.getElem_modify_self,h']
  simp[Addr.spot,Array.set!_eq_setIfInBounds]
 ·rw[Array.set!_eq_setIfInBounds,Array.toList_setIfInBounds,List.length_set,List.take_set,e]
  simp[us,List.map_set]
theorem Row.other {w:World} {g:Nat} {L:List Nat} (h:Row w g L) {p:Addr} (hp:p.block≠g) (v:Value):Row (w.setCell p v) g L:=by
 obtain⟨c,h,e⟩:=h
 exact⟨c,by rw[Below.heap_setCell _ _ _ _ (by simpa using Ne.symm hp)];exact h,e⟩
theorem Row.below {w w':World} {g:Nat} {L:List Nat} (h:Row w g L) (hb:Below w.heap.size w w'):Row w' g L:=by
 have hlt:=h.lt
 obtain⟨c,h,e⟩:=h
 exact⟨c,(hb.block g hlt).trans h,e⟩
theorem Row.lim {w:World} {g:Nat} {L:List Nat} (h:Row w g L) (hl:Lb L) (j n:Nat) {cap:Nat} (hj:j+n≤L.length) (hc:n≤cap) (hs:n≤1000000):Lim w (some ⟨g,j,none⟩) n cap ((L.drop j).take n) :=
 ⟨by simp;omega,lb_take (lb_drop hl _) _,hc,hs,fun _=>⟨g,j,rfl,h.lt,fun i v hv=>by
  have hi:i<n:=by
   have h1:=(List.getElem?_eq_some_iff.1 hv).1
   rw[List.length_map,List.length_take] at h1
   omega
  rw[h.cell (k:=j+i) (by omega)]
  rw[List.getElem?_map,List.getElem?_take_of_lt hi,List.getElem?_drop,List.getElem?_eq_getElem (by omega)] at hv
  simpa using hv⟩⟩
theorem Row.lim0 {w:World} {g:Nat} {L:List Nat} (h:Row w g L) (hl:Lb L) {cap:Nat} (hc:L.length≤cap) (hs:L.length≤1000000):Lim w (some ⟨g,0,none⟩) L.length cap L:=by
 have:=h.lim hl 0 L.length (cap:=cap) (by omega) hc hs
 simpa using this
abbrev OwnL (w:World) (B:Nat) (V:Value) (L:List Nat):Prop:=w.ownsRow B 170 1 V L.length (us L)
theorem own_row {w:World} {B:Nat} {V:Value} {L:List Nat} (h:OwnL w B V L) (hn:0<L.length):∃ g cap,V = .slice (some ⟨g,0,none⟩) L.length cap∧L.length≤cap∧B≤g∧Row w g L:=by
 rcases h.2 with⟨_,h0⟩|⟨g,cap,cur,rfl,hg,hh,h1,h2,h3,h4⟩
 ·omega
 ·exact⟨g,cap,rfl,h1,hg,cur,hh,by simpa using h4⟩
theorem own_lim {w:World} {B:Nat} {V:Value} {L:List Nat} (h:OwnL w B V L) (hl:Lb L) (hs:L.length≤1000000):∃ a cap,V = .slice a L.length cap∧Lim w a L.length cap L ∧ ∀ b off,a=some ⟨b,off,none⟩→B≤b:=by
 rcases h.2 with⟨rfl,h0⟩|⟨g,cap,cur,rfl,hg,hh,h1,h2,h3,h4⟩
 ·obtain rfl:=List.length_eq_zero_iff.1 h0
  exact⟨none,0,rfl,Lim.nil _,fun b off e=>by cases e⟩
 ·exact⟨_,cap,rfl,Row.lim0 ⟨cur,hh,by simpa using h4⟩ hl h1 hs,fun b off e=>by cases e;exact hg⟩
end Wd
end Go.Proofs.YtdnogmanbdgadaaGreatDoor
