/-
  Lemmas and walks, texts joined: QRound.
-/
import Derived.Test.YtdnogmanbdgadaaGreatDoorTb24
set_option linter.unusedSimpArgs false
set_option linter.unusedVariables false
set_option maxRecDepth 100000
set_option maxHeartbeats 40000000
namespace Go.Proofs.YtdnogmanbdgadaaGreatDoor
namespace Wd
open Go.RowKit Lw Tw

theorem Fr2.lo {w0 W w:World} {L:List (Nat×List Value)} (h:Fr2 w0 L W w):Below W.heap.size W w:=h.2
theorem Fr2.fr {w0 W w:World} {L:List (Nat×List Value)} (h:Fr2 w0 L W w):Fr w0 L w:=h.1
theorem leaves_congr2 {P:Program} {fn:Func} {t1 t2:Array Value} {R:Ending→World→Prop} (h:results fn t1=results fn t2):∀ (ds:List Deferred) (u:FrameMode) (w:World),Leaves P fn t1 R ds u w→Leaves P fn t2 R ds u w
 | [], .returning,w,⟨v,hr,hR⟩=>⟨v,h ▸ hr,hR⟩
 | [], .panicking _,_,g=>g
 | [], .run,_,g=>g
 | d::ds,u,w,⟨hu,fv,cap,f,args,ht,hi,hc⟩=>⟨hu,fv,cap,f,args,ht,hi,hc.mono fun e u' w' he=>by
   cases e with
   | returned v=>exact leaves_congr2 h ds _ w' he
   | panicked c=>exact leaves_congr2 h ds _ w' he
   | outgrown=>exact he⟩
theorem round_put (R:Ending→World→Prop) (i:Nat) (v:Value) (h2:i≠2) (h3:i≠3) (c:List PanicEntry) (a:Act) (w:World) (h:bodyPostD Tryz.prog Tryz.f129 R (.panic c) (a.put (some i) v) w):bodyPostD Tryz.prog Tryz.f129 R (.panic c) a w:=by
 refine leaves_congr2 ?_ _ _ _ h
 have g:∀ k:Nat,i≠k→(a.tmps.setIfInBounds i v)[k]?.getD undef=a.tmps[k]?.getD undef:=fun k hk=>by rw[Array.getElem?_setIfInBounds_ne hk]
 simp[results,Tryz.results129,Act.put,g 2 h2,g 3 h3]
theorem odd_abs (q:Int):(q.natAbs % 2=1)↔q % 2=1:=by omega
theorem limb_odd {q:Nat} (h:0<(canon q).length):((canon q)[0]) % 2=q % 2:=by
 have hq:q≠0:=fun e=>by subst e;rw[canon_zero] at h;simp at h
 have e:=canon_pos hq
 simp only[e,List.getElem_cons_zero]
 omega
theorem and_one (x:Nat) (h:x<4294967296):bits .and .u32 (x:Int) 1=((x % 2:Nat):Int):=by
 have:=u32_and_nat x 1 h (by decide)
 rw[Nat.and_one_is_mod] at this
 exact this
theorem fround_any (V:Value) (r:Rat) (w:World) (h:FracR 0 w V r) (lp:FL r 900) :
  Calls Tryz.prog 129 #[V] w (NumPost w (Ls.roundR r)):=by
 have C1:=Lib.hid (fun w' (hb:Below w.heap.size w w')=>fcheck_any V r w' (h.below hb) (lp.mono (by decide)))
 obtain⟨a,k,c,a',k',c',rfl,hA,hA', -, -⟩:=h
 have DM:=Lib.hid (fun w' (hb:Below w.heap.size w w')=>divmod_any _ _ r.num r.den w' (wide0 (hA.below hb)) (wide0N (hA'.below hb)) r.den_pos (Nat.le_trans lp.n (by decide)) (Nat.le_trans lp.d (by decide)))
 have HD:=Lib.hid (fun w' (hb:Below w.heap.size w w')=>hA'.below hb)
 have F0:=((Fr.start w).alloc (frV (decide (r.num<0)) a k c false a' k' c') 68).alloc [.bool false, .slice none 0 0] 66 |>.alloc [.int .i64 0] 35
 simp only[World.size_alloc] at F0
 replace F0:=Lib.hid F0
 have dl:(canon r.den).length≤900:=lp.d
 have ql:(canon (r.num/(r.den:Int)).natAbs).length≤901:=by
  have h1:=lp.n
  have h2:(r.num/(r.den:Int)).natAbs≤r.num.natAbs+1:=by
   have h0:0<(r.den:Int):=by have:=r.den_pos;omega
   rcases Int.le_total 0 r.num with g|g
   ·have:=Int.ediv_le_self (r.den:Int) g
    have:=Int.ediv_nonneg g (Int.le_of_lt h0)
    omega
   ·have h3:r.num≤r.num/(r.den:Int):=Int.le_ediv_of_mul_le h0 (by
     have:=Int.mul_le_mul_of_nonpos_left g (show 1≤(r.den:Int) by omega)
     omega)
    have h4:r.num/(r.den:Int)≤0:=by
     rcases Int.lt_or_le 0 (r.num/(r.den:Int)) with q|q
     ·have:=Int.mul_le_of_le_ediv h0 (show (1:Int)≤r.num/(r.den:Int) by omega)
      omega
     ·exact q
    omega
  refine Nat.le_trans (canon_mono h2) (len_addN h1 (Nat.le_trans (canon_len 1 1 (by decide)) ?_))
  omega
 have ml:(canon (r.num % (r.den:Int)).natAbs).length≤900:=by
  have h0:0<(r.den:Int):=by have:=r.den_pos;omega
  have:=Int.emod_nonneg r.num (show (r.den:Int)≠0 by omega)
  have:=Int.emod_lt_of_pos r.num h0
  exact Nat.le_trans (canon_mono (show (r.num % (r.den:Int)).natAbs≤r.den by omega)) dl
 have RR:Ls.roundR r=if (r.den:Int)<r.num % (r.den:Int)+r.num % (r.den:Int)∨(r.num % (r.den:Int)+r.num % (r.den:Int)=(r.den:Int)∧(r.num/(r.den:Int)) % 2=1) then r.num/(r.den:Int)+1 else r.num/(r.den:Int):=by
  unfold Ls.roundR
  rw[show 2*(r.num % (r.den:Int))=r.num % (r.den:Int)+r.num % (r.den:Int) by omega]
 generalize Ls.roundR r=res at *
 generalize r.num/(r.den:Int)=q at *
 generalize r.num % (r.den:Int)=m at *
 generalize r.den=dn at *
 generalize decide (r.num<0)=n at *
 replace RR:=Lib.hid RR
 clear hA hA' lp
 go_enter_defers Tryz.func129,Tryz.ntmps129
 go_wp2_with fail
 refine(C1.out _ F0.out.below).mono ?_
 rintro e w1 ⟨rfl,hb⟩
 have F1:=F0.out.call hb
 obtain⟨c0,c1,c2,c3⟩:=F1.c4 2 rfl
 replace F1:=Lib.hid F1
 clear hb F0 C1
 go_wp2_with (go_at_call 141;refine(want_walk _).mono ?_;rintro e w' ⟨rfl,rfl⟩)
 refine(DM.out _ F1.out.below).mono ?_
 rintro e w2 ⟨U1,U2,rfl,⟨aq,kq,cq,rfl,lq,fq⟩,⟨ar,kr,cr,rfl,lr,fr⟩,hb⟩
 have FB:=(F1.out.call hb).alloc (wdV (decide (q<0)) aq kq cq) 66
 have FA:=FB.alloc (wdV (decide (m<0)) ar kr cr) 66
 have hba:=((Below.refl _ w2).alloc (Nat.le_refl _) (.cells (wdV (decide (q<0)) aq kq cq).toArray 66)).alloc (by simp) (.cells (wdV (decide (m<0)) ar kr cr).toArray 66)
 simp only[World.size_alloc] at FA
 have FP:=FA.put 2 rfl [.int .i64 0] rfl
 have ce:=FA.cell 2 0 rfl rfl
 have fe:=FA.fz 2 0 rfl rfl
 have zq:=fun b off e=>(show w.heap.size+3≤b by have:=fq b off e;have:=(F1.out.least 0 rfl).2;omega)
 have zr:=fun b off e=>(show w.heap.size+3≤b by have:=fr b off e;have:=(F1.out.least 0 rfl).2;omega)
 have HQ:=Lib.hid ((lq.below hba).setCells (c:=w.heap.size+1+1) (fun b off e=>by have:=zq b off e;omega) 0 [.int .i64 0])
 have HR:=Lib.hid ((lr.below hba).setCells (c:=w.heap.size+1+1) (fun b off e=>by have:=zr b off e;omega) 0 [.int .i64 0])
 have zq:=Lib.hid zq
 have lqn:=lq.len
 rw[lqn] at ql
 have bw2:w.heap.size+3≤w2.heap.size:=by have:=(F1.out.call hb).hi _ (List.mem_cons_self ..);simp at this;omega
 replace FP:=Lib.hid FP
 clear FA FB c0 c1 c2 c3 lq fq lr fr hb hba F1 zr
 go_wp2_with fail
 refine(want_walk _).mono ?_
 rintro e w' ⟨rfl,rfl⟩
 have e3:(((w2.alloc (.cells (wdV (decide (q<0)) aq kq cq).toArray 66)).alloc (.cells (wdV (decide (m<0)) ar kr cr).toArray 66)).setCell ⟨w.heap.size+1+1,0,none⟩ (.int .i64 0))=(((w2.alloc (.cells (wdV (decide (q<0)) aq kq cq).toArray 66)).alloc (.cells (wdV (decide (m<0)) ar kr cr).toArray 66)).setCells (w.heap.size+1+1) 0 [.int .i64 0]):=rfl
 rw[e3]
 obtain⟨W3,hW3⟩:∃ W3,W3=(((w2.alloc (.cells (wdV (decide (q<0)) aq kq cq).toArray 66)).alloc (.cells (wdV (decide (m<0)) ar kr cr).toArray 66)).setCells (w.heap.size+1+1) 0 [.int .i64 0]):=⟨_,rfl⟩
 rw[← hW3] at FP HQ HR ⊢
 clear e3 hW3 ce fe
 replace FP:=FP.out.two
 have KS:=fun w' (h:Fr2 w [(w2.heap.size+1,wdV (decide (m<0)) ar kr cr),(w2.heap.size,wdV (decide (q<0)) aq kq cq),(w.heap.size+1+1,[.int .i64 0]),(w.heap.size+1,[.bool false, .slice none 0 0]),(w.heap.size,frV n a k c false a' k' c')] W3 w')=>(show w'.cell? ⟨w2.heap.size+1,0,none⟩=some (.bool (decide (m<0)))∧w'.cell? ⟨w2.heap.size+1,1,none⟩=some (.slice ar kr cr)∧w'.cell? ⟨w.heap.size,2,none⟩=some (.bool false)∧w'.cell? ⟨w.heap.size,3,none⟩=some (.slice a' k' c')∧Fr2 w [(w2.heap.size+1,wdV (decide (m<0)) ar kr cr),(w2.heap.size,wdV (decide (q<0)) aq kq cq),(w.heap.size+1+1,[.int .i64 0]),(w.heap.size+1,[.bool false, .slice none 0 0]),(w.heap.size,frV n a k c false a' k' c')] W3 w' from⟨h.1.cell 0 0 rfl rfl,h.1.cell 0 1 rfl rfl,h.1.cell 4 2 rfl rfl,h.1.cell 4 3 rfl rfl,h⟩)
 have KC:=fun w' w'' (h:w'.cell? ⟨w2.heap.size+1,0,none⟩=some (.bool (decide (m<0)))∧w'.cell? ⟨w2.heap.size+1,1,none⟩=some (.slice ar kr cr)∧w'.cell? ⟨w.heap.size,2,none⟩=some (.bool false)∧w'.cell? ⟨w.heap.size,3,none⟩=some (.slice a' k' c')∧Fr2 w [(w2.heap.size+1,wdV (decide (m<0)) ar kr cr),(w2.heap.size,wdV (decide (q<0)) aq kq cq),(w.heap.size+1+1,[.int .i64 0]),(w.heap.size+1,[.bool false, .slice none 0 0]),(w.heap.size,frV n a k c false a' k' c')] W3 w') (hb:Below w'.heap.size w' w'')=>h.2.2.2.2.call hb
 have AD:=Lib.hid (fun w' (h:w'.cell? ⟨w2.heap.size+1,0,none⟩=some (.bool (decide (m<0)))∧w'.cell? ⟨w2.heap.size+1,1,none⟩=some (.slice ar kr cr)∧w'.cell? ⟨w.heap.size,2,none⟩=some (.bool false)∧w'.cell? ⟨w.heap.size,3,none⟩=some (.slice a' k' c')∧Fr2 w [(w2.heap.size+1,wdV (decide (m<0)) ar kr cr),(w2.heap.size,wdV (decide (q<0)) aq kq cq),(w.heap.size+1+1,[.int .i64 0]),(w.heap.size+1,[.bool false, .slice none 0 0]),(w.heap.size,frV n a k c false a' k' c')] W3 w')=>addZ_any _ _ m m w' (wide0 (HR.out.below h.2.2.2.2.2)) (wide0 (HR.out.below h.2.2.2.2.2)) (by omega))
 have ml2:(canon (m+m).natAbs).length≤4096:=Nat.le_trans (len_addZ ml ml) (by decide)
 have CM:=Lib.hid (fun w' x y z (h1:Lim w' x y z (canon (m+m).natAbs)) (h2:Lim w' a' k' c' (canon dn))=>cmpW_any _ _ (m+m) (dn:Int) w' (wide0 h1) (wide0N h2) ml2 (by rw[Int.natAbs_natCast];omega))
 have HD3:=Lib.hid (HD.out _ FP.1.below)
 clear HD ml2
 generalize decide (m<0)=sm at *
 go_wp2_with fail
 go_region_held3 (fun w'=>w'.cell? ⟨w2.heap.size+1,0,none⟩=some (.bool sm)∧w'.cell? ⟨w2.heap.size+1,1,none⟩=some (.slice ar kr cr)∧w'.cell? ⟨w.heap.size,2,none⟩=some (.bool false)∧w'.cell? ⟨w.heap.size,3,none⟩=some (.slice a' k' c')∧Fr2 w [(w2.heap.size+1,wdV (sm) ar kr cr),(w2.heap.size,wdV (decide (q<0)) aq kq cq),(w.heap.size+1+1,[.int .i64 0]),(w.heap.size+1,[.bool false, .slice none 0 0]),(w.heap.size,frV n a k c false a' k' c')] W3 w') (first|exact KS _ FP.drew|exact KS _ FP|exact KS _ hk|with_reducible assumption) (first|(go_at_call 146;(with_reducible refine(AD.out _ (by assumption)).mono ?_);rintro e w' ⟨V,rfl,⟨ea,ka,ca,rfl,hL,hg⟩,hb⟩;have hk:=KC _ _ (by assumption) hb;have HL:=Lib.hid hL;clear hb hL hg)|(go_at_call 128;refine(must_walk _ _ _ _ _).mono ?_;rintro e w' ⟨rfl,hb⟩;have hk:=Fr2.call hk hb;replace HL:=Lib.hid (HL.out.below hb);clear hb)|(go_at_call 186;(with_reducible refine(CM.out _ _ _ _ HL.out (HD3.out.below (Fr2.lo hk))).mono ?_);rintro e w' ⟨rfl,hb⟩;have hk:=Fr2.call hk hb;clear hb))
 have HQ5:=HQ.out.below (Fr2.lo hk)
 have F5:=Fr2.fr hk
 clear KS KC AD CM HL hk FP HR HD3 HQ ml
 replace F5:=Lib.hid F5
 have HQ5:=Lib.hid HQ5
 rcases Int.lt_trichotomy (m+m) (dn:Int) with g|g|g
 ·have e1:cmpZ (m+m) (dn:Int) = -1:=by unfold cmpZ;rw[if_pos g]
  have e2:res=q:=by rw[RR.out,if_neg (by omega)]
  rw[e1]
  subst e2
  clear RR g e1
  replace F5:=F5.out
  replace HQ5:=HQ5.out
  generalize hq:res=q at *
  obtain⟨g0,g1⟩:=F5.c2 1 rfl
  obtain⟨u0,u1⟩:=F5.c2 3 rfl
  obtain⟨v0,v1⟩:=F5.f2 3 rfl
  have ce:=F5.cell 2 0 rfl rfl
  have fe:=F5.fz 2 0 rfl rfl
  have PA:=F5.put 3 rfl (wdV (decide (q<0)) aq kq cq) rfl
  have PP:=PA.put 2 rfl [.int .i64 0] rfl
  have R:=Lib.hid (show Wide w.heap.size ((w'.setCells (w.heap.size+1) 0 (wdV (decide (q<0)) aq kq cq)).setCells (w.heap.size+1+1) 0 [.int .i64 0]) (.agg (wdV (decide (q<0)) aq kq cq).toArray) (q) from wideOf ((HQ5.setCells (fun b off e=>by have:=zq.out b off e;omega) _ _).setCells (fun b off e=>by have:=zq.out b off e;omega) _ _) (fun b off e=>by have:=zq.out b off e;omega))
  have G:=Lib.hid (PP.get 3 rfl)
  have hc:=PP.cell 2 0 rfl rfl
  have B:=Lib.hid PP.below
  have hc2:(((w'.setCell ⟨w.heap.size+1,0,none⟩ (.bool (decide (q<0)))).setCell ⟨w.heap.size+1,1,none⟩ (.slice aq kq cq)).setCell ⟨w.heap.size+1+1,0,none⟩ (.int .i64 0)).cell? ⟨w.heap.size+1+1,0,none⟩=some (.int .i64 0):=hc
  replace hc2:=Lib.hid hc2
  clear PA PP hc F5 HQ5 zq
  go_wp2_with fail
  refine leaves_cons (f:=140) (args:=#[.pointer (some ⟨w.heap.size+1+1,0,none⟩)]) (by simp) (by simp[go_sem]) ?_
  refine(catch_idle ⟨w.heap.size+1+1,0,none⟩ _).mono ?_
  rintro e u' w'' ⟨rfl,rfl,rfl⟩
  exact⟨_,ret_cells Tryz.results129 _ _ (w.heap.size+1) (w.heap.size+1+1) _ (.int .i64 0) _ rfl rfl G.out Tryz.underlying66 rfl infoW (by simp[go_sem,hc2.out]),_,rfl,R.out,B.out⟩
 ·have e1:cmpZ (m+m) (dn:Int)=0:=by unfold cmpZ;rw[if_neg (by omega),if_neg (by omega)]
  rw[e1]
  rcases Nat.eq_zero_or_pos kq with k0|kp
  ·have q0:q=0:=by
    have:=HQ5.out.len
    rcases Int.lt_trichotomy q 0 with h|h|h
    ·have:=(canon_lenpos q.natAbs).2 (by omega);omega
    ·exact h
    ·have:=(canon_lenpos q.natAbs).2 (by omega);omega
   have e2:res=q:=by rw[RR.out,if_neg (by omega)]
   have ZT:=Lib.hid (fun w''=>(show Calls Tryz.prog 143 #[.agg #[.bool (decide (q<0)), .slice aq kq cq]] w'' fun e w3=>e = .returned (.bool true)∧Below w''.heap.size w'' w3 from by
    have:=zero_any (decide (q<0)) aq kq cq w''
    rwa [decide_eq_true k0] at this))
   subst e2
   clear RR g e1 q0 k0
   obtain⟨g0,g1⟩:=F5.out.c2 1 rfl
   go_wp2_with fail
   refine(ZT.out _).mono ?_
   rintro e w9 ⟨rfl,hb⟩
   replace F5:=F5.out.call hb
   replace HQ5:=HQ5.out.below hb
   clear hb g0 g1 ZT
   generalize hq:res=q at *
   obtain⟨g0,g1⟩:=F5.c2 1 rfl
   obtain⟨u0,u1⟩:=F5.c2 3 rfl
   obtain⟨v0,v1⟩:=F5.f2 3 rfl
   have ce:=F5.cell 2 0 rfl rfl
   have fe:=F5.fz 2 0 rfl rfl
   have PA:=F5.put 3 rfl (wdV (decide (q<0)) aq kq cq) rfl
   have PP:=PA.put 2 rfl [.int .i64 0] rfl
   have R:=Lib.hid (show Wide w.heap.size ((w9.setCells (w.heap.size+1) 0 (wdV (decide (q<0)) aq kq cq)).setCells (w.heap.size+1+1) 0 [.int .i64 0]) (.agg (wdV (decide (q<0)) aq kq cq).toArray) (q) from wideOf ((HQ5.setCells (fun b off e=>by have:=zq.out b off e;omega) _ _).setCells (fun b off e=>by have:=zq.out b off e;omega) _ _) (fun b off e=>by have:=zq.out b off e;omega))
   have G:=Lib.hid (PP.get 3 rfl)
   have hc:=PP.cell 2 0 rfl rfl
   have B:=Lib.hid PP.below
   have hc2:(((w9.setCell ⟨w.heap.size+1,0,none⟩ (.bool (decide (q<0)))).setCell ⟨w.heap.size+1,1,none⟩ (.slice aq kq cq)).setCell ⟨w.heap.size+1+1,0,none⟩ (.int .i64 0)).cell? ⟨w.heap.size+1+1,0,none⟩=some (.int .i64 0):=hc
   replace hc2:=Lib.hid hc2
   clear PA PP hc F5 HQ5 zq
   go_wp2_with fail
   refine leaves_cons (f:=140) (args:=#[.pointer (some ⟨w.heap.size+1+1,0,none⟩)]) (by simp) (by simp[go_sem]) ?_
   refine(catch_idle ⟨w.heap.size+1+1,0,none⟩ _).mono ?_
   rintro e u' w'' ⟨rfl,rfl,rfl⟩
   exact⟨_,ret_cells Tryz.results129 _ _ (w.heap.size+1) (w.heap.size+1+1) _ (.int .i64 0) _ rfl rfl G.out Tryz.underlying66 rfl infoW (by simp[go_sem,hc2.out]),_,rfl,R.out,B.out⟩
  ·have ZF:=Lib.hid (fun w''=>zero_walk (decide (q<0)) aq kq cq w'' kp)
   have lx:=HQ5.out.len
   obtain⟨bq,oq,rfl,ltq, -⟩:=HQ5.out.row kp
   have hx:0<(canon q.natAbs).length:=by omega
   have lo:=limb_odd hx
   have lb:=lb_get (lb_canon q.natAbs) hx
   have LC:=Lib.hid (fun w'' (h:Lim w'' (some ⟨bq,oq,none⟩) kq cq (canon q.natAbs))=>h.cell (k:=0) hx)
   have k1:(0:Int)<(kq:Int):=by omega
   generalize (canon q.natAbs)[0]=x at *
   by_cases ho:q % 2=1
   ·have hb1:bits .and .u32 (x:Int) 1=1:=by rw[and_one x lb,lo,(odd_abs q).2 ho];rfl
    have e2:res=q+1:=by rw[RR.out,if_pos (Or.inr ⟨g,ho⟩)]
    have AL:=Lib.hid (show (canon q.natAbs).length+(canon (1:Int).natAbs).length+1≤4096 by rw[HQ5.out.len];have:(canon (1:Int).natAbs).length≤1:=canon_len 1 _ (by decide);omega)
    subst e2
    clear RR g e1 lo lb ho hx lx
    obtain⟨g0,g1⟩:=F5.out.c2 1 rfl
    go_wp2_with fail
    refine(ZF.out _).mono ?_
    rintro e w9 ⟨rfl,hb⟩
    replace F5:=Lib.hid (F5.out.call hb)
    replace HQ5:=Lib.hid (HQ5.out.below hb)
    clear hb g0 g1 ZF
    have g1:=F5.out.cell 1 1 rfl rfl
    have lc:=LC.out _ HQ5.out
    simp only[Nat.add_zero] at lc
    clear LC
    go_wp2_with fail
    clear g1 lc hb1
    have F5':=Lib.hid F5.out.drew
    have HQ':=Lib.hid (HQ5.out.below (Below.refl _ w9).drew)
    clear F5 HQ5 zq
    refine wp_region_held_drew (S:=fun _=>True) (by kernel_rfl) trivial (fun hHeld=>?_)
    generalize w9.drew=wd at *
    refine wpAnyH_ready (rs:=[0,1]) (by kernel_rfl) (by simp) ?_
    refine AllReadyH.cons rfl (fun K' hK=>?_) (AllReadyH.cons rfl (fun K' hK=>?_) AllReadyH.nil)
    ·have g0:=F5'.out.cell 1 0 rfl rfl
     have g1:=F5'.out.cell 1 1 rfl rfl
     clear hHeld
     go_simp
     clear g0 g1
     refine hK.out _ _ (trivial) (fun hHeld=>?_)
     clear hK
     try simp only[Act.put,Lw.s1,Lw.s2,Lw.s3]
     refine wpAnyH_ready (rs:=[1]) (by kernel_rfl) (by simp) ?_
     refine AllReadyH.cons rfl (fun K' hK=>?_) AllReadyH.nil
     clear hHeld
     go_simp
     refine(one_any _).mono ?_
     rintro e w6 ⟨V,rfl,hV,hb⟩
     obtain⟨az,kz,cz,rfl,hM, -⟩:=wideN_inv (p:=1) hV
     have F6:=Lib.hid (F5'.out.call hb)
     have HM:=Lib.hid hM
     have HQ6:=Lib.hid (HQ'.out.below hb)
     clear hV hM hb
     refine hK.out _ _ (trivial) (fun hHeld=>?_)
     clear hK
     try simp only[Act.put,Lw.s1,Lw.s2,Lw.s3]
     refine wpAnyH_ready (rs:=[2]) (by kernel_rfl) (by simp) ?_
     refine AllReadyH.cons rfl (fun K' hK=>?_) AllReadyH.nil
     clear hHeld
     go_simp
     refine(addZ_any _ _ q 1 _ (wide0 HQ6.out) (show Wide 0 _ _ 1 from wide0N (p:=1) HM.out) AL.out).mono ?_
     rintro e w7 ⟨V,rfl,⟨ax,kx,cx,rfl,hX,hgx⟩,hb⟩
     have F7:=Lib.hid (F6.out.call hb)
     have HX:=Lib.hid hX
     have HGX:=Lib.hid hgx
     clear hX hgx hb
     refine hK.out _ _ (trivial) (fun hHeld=>?_)
     clear hK
     try simp only[Act.put,Lw.s1,Lw.s2,Lw.s3]
     refine wpAnyH_take (i:=3) (oi:=?oi3x1) (v:=?v3x1) ?hi3x1 (by kernel_rfl) (by kernel_rfl) (by kernel_rfl) ?hq3x1 ?hy3x1 hHeld ?rest3x1
     case hi3x1=>((try simp only[List.getElem?_toArray,List.getElem?_cons_succ,List.getElem?_cons_zero]);(try rfl))
     case hq3x1=>exact fun c a w h=>round_put _ _ _ (by decide) (by decide) c a w h
     case hy3x1=>exact Or.inl ⟨by rfl,by intro w hSw;clear hSw;go_simp;try with_reducible rfl⟩
     try simp only[Act.put,Lw.s1,Lw.s2,Lw.s3]
     refine wpAnyH_take (i:=4) (oi:=?oi4x2) (v:=?v4x2) ?hi4x2 (by kernel_rfl) (by kernel_rfl) (by kernel_rfl) ?hq4x2 ?hy4x2 hHeld ?rest4x2
     case hi4x2=>((try simp only[List.getElem?_toArray,List.getElem?_cons_succ,List.getElem?_cons_zero]);(try rfl))
     case hq4x2=>exact fun c a w h=>round_put _ _ _ (by decide) (by decide) c a w h
     case hy4x2=>exact Or.inl ⟨by rfl,by intro w hSw;clear hSw;go_simp;try with_reducible rfl⟩
     try simp only[Act.put,Lw.s1,Lw.s2,Lw.s3]
     refine wpAnyH_ready (rs:=[5]) (by kernel_rfl) (by simp) ?_
     refine AllReadyH.cons rfl (fun K' hK=>?_) AllReadyH.nil
     clear hHeld
     go_simp
     refine(must_walk _ _ _ _ _).mono ?_
     rintro e w8 ⟨rfl,hb⟩
     have F8:=Lib.hid (F7.out.call hb)
     have HX8:=Lib.hid (HX.out.below hb)
     clear hb
     refine hK.out _ _ (trivial) (fun hHeld=>?_)
     clear hK
     try simp only[Act.put,Lw.s1,Lw.s2,Lw.s3]
     refine wpAnyH_ready (rs:=[6]) (by kernel_rfl) (by simp) ?_
     refine AllReadyH.cons rfl (fun K' hK=>?_) AllReadyH.nil
     obtain⟨s0,s1⟩:=F8.out.c2 1 rfl
     obtain⟨s2,s3⟩:=F8.out.f2 1 rfl
     clear hHeld
     go_simp
     clear s0 s1 s2 s3
     refine hK.out _ _ (trivial) (fun hHeld=>?_)
     clear hK
     try simp only[Act.put,Lw.s1,Lw.s2,Lw.s3]
     refine wpAnyH_done (by kernel_rfl) ?_ _
     clear hHeld
     have zq:=Lib.hid (fun b off e=>(show w2.heap.size+1<b by have:=HGX.out b off e;have:=(F6.out.least 0 rfl).2;omega))
     have F9:=F8.out.put 1 rfl (wdV (decide (q+1<0)) ax kx cx) rfl
     have HQ9:=(HX8.out.setCells (c:=w2.heap.size) (fun b off e=>by have:=zq.out b off e;omega) 0 (wdV (decide (q+1<0)) ax kx cx))
     have zq:=Lib.hid (fun b off e=>(show w.heap.size+3≤b by have:=zq.out b off e;have:=bw2;omega))
     have e3:(w8.setCell ⟨w2.heap.size,0,none⟩ (.bool (decide (q+1<0)))).setCell ⟨w2.heap.size,1,none⟩ (.slice ax kx cx)=w8.setCells w2.heap.size 0 (wdV (decide (q+1<0)) ax kx cx):=rfl
     obtain⟨W9,hW9⟩:∃ W9,W9=w8.setCells w2.heap.size 0 (wdV (decide (q+1<0)) ax kx cx):=⟨_,rfl⟩
     rw[← hW9] at F9 HQ9 e3
     rw[e3]
     have F5:=F9
     have HQ5:=HQ9
     clear e3 hW9 F9 HQ9 F8 HX8 HX HGX F7 F6 HM HQ6 F5' HQ'
     obtain⟨g0,g1⟩:=F5.c2 1 rfl
     obtain⟨u0,u1⟩:=F5.c2 3 rfl
     obtain⟨v0,v1⟩:=F5.f2 3 rfl
     have ce:=F5.cell 2 0 rfl rfl
     have fe:=F5.fz 2 0 rfl rfl
     have PA:=F5.put 3 rfl (wdV (decide (q+1<0)) ax kx cx) rfl
     have PP:=PA.put 2 rfl [.int .i64 0] rfl
     have R:=Lib.hid (show Wide w.heap.size ((W9.setCells (w.heap.size+1) 0 (wdV (decide (q+1<0)) ax kx cx)).setCells (w.heap.size+1+1) 0 [.int .i64 0]) (.agg (wdV (decide (q+1<0)) ax kx cx).toArray) (q+1) from wideOf ((HQ5.setCells (fun b off e=>by have:=zq.out b off e;omega) _ _).setCells (fun b off e=>by have:=zq.out b off e;omega) _ _) (fun b off e=>by have:=zq.out b off e;omega))
     have G:=Lib.hid (PP.get 3 rfl)
     have hc:=PP.cell 2 0 rfl rfl
     have B:=Lib.hid PP.below
     have hc2:(((W9.setCell ⟨w.heap.size+1,0,none⟩ (.bool (decide (q+1<0)))).setCell ⟨w.heap.size+1,1,none⟩ (.slice ax kx cx)).setCell ⟨w.heap.size+1+1,0,none⟩ (.int .i64 0)).cell? ⟨w.heap.size+1+1,0,none⟩=some (.int .i64 0):=hc
     replace hc2:=Lib.hid hc2
     clear PA PP hc F5 HQ5 zq
     go_wp2_with fail
     refine leaves_cons (f:=140) (args:=#[.pointer (some ⟨w.heap.size+1+1,0,none⟩)]) (by simp) (by simp[go_sem]) ?_
     refine(catch_idle ⟨w.heap.size+1+1,0,none⟩ _).mono ?_
     rintro e u' w'' ⟨rfl,rfl,rfl⟩
     exact⟨_,ret_cells Tryz.results129 _ _ (w.heap.size+1) (w.heap.size+1+1) _ (.int .i64 0) _ rfl rfl G.out Tryz.underlying66 rfl infoW (by simp[go_sem,hc2.out]),_,rfl,R.out,B.out⟩
    ·clear hHeld
     go_simp
     refine(one_any _).mono ?_
     rintro e w6 ⟨V,rfl,hV,hb⟩
     obtain⟨az,kz,cz,rfl,hM, -⟩:=wideN_inv (p:=1) hV
     have F6:=Lib.hid (F5'.out.call hb)
     have HM:=Lib.hid hM
     have HQ6:=Lib.hid (HQ'.out.below hb)
     clear hV hM hb
     refine hK.out _ _ (trivial) (fun hHeld=>?_)
     clear hK
     try simp only[Act.put,Lw.s1,Lw.s2,Lw.s3]
     refine wpAnyH_ready (rs:=[0]) (by kernel_rfl) (by simp) ?_
     refine AllReadyH.cons rfl (fun K' hK=>?_) AllReadyH.nil
     obtain⟨g0,g1⟩:=F6.out.c2 1 rfl
     clear hHeld
     go_simp
     clear g0 g1
     refine hK.out _ _ (trivial) (fun hHeld=>?_)
     clear hK
     try simp only[Act.put,Lw.s1,Lw.s2,Lw.s3]
     refine wpAnyH_ready (rs:=[2]) (by kernel_rfl) (by simp) ?_
     refine AllReadyH.cons rfl (fun K' hK=>?_) AllReadyH.nil
     clear hHeld
     go_simp
     refine(addZ_any _ _ q 1 _ (wide0 HQ6.out) (show Wide 0 _ _ 1 from wide0N (p:=1) HM.out) AL.out).mono ?_
     rintro e w7 ⟨V,rfl,⟨ax,kx,cx,rfl,hX,hgx⟩,hb⟩
     have F7:=Lib.hid (F6.out.call hb)
     have HX:=Lib.hid hX
     have HGX:=Lib.hid hgx
     clear hX hgx hb
     refine hK.out _ _ (trivial) (fun hHeld=>?_)
     clear hK
     try simp only[Act.put,Lw.s1,Lw.s2,Lw.s3]
     refine wpAnyH_take (i:=3) (oi:=?oi3x3) (v:=?v3x3) ?hi3x3 (by kernel_rfl) (by kernel_rfl) (by kernel_rfl) ?hq3x3 ?hy3x3 hHeld ?rest3x3
     case hi3x3=>((try simp only[List.getElem?_toArray,List.getElem?_cons_succ,List.getElem?_cons_zero]);(try rfl))
     case hq3x3=>exact fun c a w h=>round_put _ _ _ (by decide) (by decide) c a w h
     case hy3x3=>exact Or.inl ⟨by rfl,by intro w hSw;clear hSw;go_simp;try with_reducible rfl⟩
     try simp only[Act.put,Lw.s1,Lw.s2,Lw.s3]
     refine wpAnyH_take (i:=4) (oi:=?oi4x4) (v:=?v4x4) ?hi4x4 (by kernel_rfl) (by kernel_rfl) (by kernel_rfl) ?hq4x4 ?hy4x4 hHeld ?rest4x4
     case hi4x4=>((try simp only[List.getElem?_toArray,List.getElem?_cons_succ,List.getElem?_cons_zero]);(try rfl))
     case hq4x4=>exact fun c a w h=>round_put _ _ _ (by decide) (by decide) c a w h
     case hy4x4=>exact Or.inl ⟨by rfl,by intro w hSw;clear hSw;go_simp;try with_reducible rfl⟩
     try simp only[Act.put,Lw.s1,Lw.s2,Lw.s3]
     refine wpAnyH_ready (rs:=[5]) (by kernel_rfl) (by simp) ?_
     refine AllReadyH.cons rfl (fun K' hK=>?_) AllReadyH.nil
     clear hHeld
     go_simp
     refine(must_walk _ _ _ _ _).mono ?_
     rintro e w8 ⟨rfl,hb⟩
     have F8:=Lib.hid (F7.out.call hb)
     have HX8:=Lib.hid (HX.out.below hb)
     clear hb
     refine hK.out _ _ (trivial) (fun hHeld=>?_)
     clear hK
     try simp only[Act.put,Lw.s1,Lw.s2,Lw.s3]
     refine wpAnyH_ready (rs:=[6]) (by kernel_rfl) (by simp) ?_
     refine AllReadyH.cons rfl (fun K' hK=>?_) AllReadyH.nil
     obtain⟨s0,s1⟩:=F8.out.c2 1 rfl
     obtain⟨s2,s3⟩:=F8.out.f2 1 rfl
     clear hHeld
     go_simp
     clear s0 s1 s2 s3
     refine hK.out _ _ (trivial) (fun hHeld=>?_)
     clear hK
     try simp only[Act.put,Lw.s1,Lw.s2,Lw.s3]
     refine wpAnyH_done (by kernel_rfl) ?_ _
     clear hHeld
     have zq:=Lib.hid (fun b off e=>(show w2.heap.size+1<b by have:=HGX.out b off e;have:=(F6.out.least 0 rfl).2;omega))
     have F9:=F8.out.put 1 rfl (wdV (decide (q+1<0)) ax kx cx) rfl
     have HQ9:=(HX8.out.setCells (c:=w2.heap.size) (fun b off e=>by have:=zq.out b off e;omega) 0 (wdV (decide (q+1<0)) ax kx cx))
     have zq:=Lib.hid (fun b off e=>(show w.heap.size+3≤b by have:=zq.out b off e;have:=bw2;omega))
     have e3:(w8.setCell ⟨w2.heap.size,0,none⟩ (.bool (decide (q+1<0)))).setCell ⟨w2.heap.size,1,none⟩ (.slice ax kx cx)=w8.setCells w2.heap.size 0 (wdV (decide (q+1<0)) ax kx cx):=rfl
     obtain⟨W9,hW9⟩:∃ W9,W9=w8.setCells w2.heap.size 0 (wdV (decide (q+1<0)) ax kx cx):=⟨_,rfl⟩
     rw[← hW9] at F9 HQ9 e3
     rw[e3]
     have F5:=F9
     have HQ5:=HQ9
     clear e3 hW9 F9 HQ9 F8 HX8 HX HGX F7 F6 HM HQ6 F5' HQ'
     obtain⟨g0,g1⟩:=F5.c2 1 rfl
     obtain⟨u0,u1⟩:=F5.c2 3 rfl
     obtain⟨v0,v1⟩:=F5.f2 3 rfl
     have ce:=F5.cell 2 0 rfl rfl
     have fe:=F5.fz 2 0 rfl rfl
     have PA:=F5.put 3 rfl (wdV (decide (q+1<0)) ax kx cx) rfl
     have PP:=PA.put 2 rfl [.int .i64 0] rfl
     have R:=Lib.hid (show Wide w.heap.size ((W9.setCells (w.heap.size+1) 0 (wdV (decide (q+1<0)) ax kx cx)).setCells (w.heap.size+1+1) 0 [.int .i64 0]) (.agg (wdV (decide (q+1<0)) ax kx cx).toArray) (q+1) from wideOf ((HQ5.setCells (fun b off e=>by have:=zq.out b off e;omega) _ _).setCells (fun b off e=>by have:=zq.out b off e;omega) _ _) (fun b off e=>by have:=zq.out b off e;omega))
     have G:=Lib.hid (PP.get 3 rfl)
     have hc:=PP.cell 2 0 rfl rfl
     have B:=Lib.hid PP.below
     have hc2:(((W9.setCell ⟨w.heap.size+1,0,none⟩ (.bool (decide (q+1<0)))).setCell ⟨w.heap.size+1,1,none⟩ (.slice ax kx cx)).setCell ⟨w.heap.size+1+1,0,none⟩ (.int .i64 0)).cell? ⟨w.heap.size+1+1,0,none⟩=some (.int .i64 0):=hc
     replace hc2:=Lib.hid hc2
     clear PA PP hc F5 HQ5 zq
     go_wp2_with fail
     refine leaves_cons (f:=140) (args:=#[.pointer (some ⟨w.heap.size+1+1,0,none⟩)]) (by simp) (by simp[go_sem]) ?_
     refine(catch_idle ⟨w.heap.size+1+1,0,none⟩ _).mono ?_
     rintro e u' w'' ⟨rfl,rfl,rfl⟩
     exact⟨_,ret_cells Tryz.results129 _ _ (w.heap.size+1) (w.heap.size+1+1) _ (.int .i64 0) _ rfl rfl G.out Tryz.underlying66 rfl infoW (by simp[go_sem,hc2.out]),_,rfl,R.out,B.out⟩
   ·have hb1:bits .and .u32 (x:Int) 1=0:=by
     have:q.natAbs % 2=0:=by have:=(odd_abs q).1;omega
     rw[and_one x lb,lo,this];rfl
    have e2:res=q:=by rw[RR.out,if_neg (by omega)]
    subst e2
    clear RR g e1 lo lb ho hx lx
    obtain⟨g0,g1⟩:=F5.out.c2 1 rfl
    go_wp2_with fail
    refine(ZF.out _).mono ?_
    rintro e w9 ⟨rfl,hb⟩
    replace F5:=Lib.hid (F5.out.call hb)
    replace HQ5:=Lib.hid (HQ5.out.below hb)
    clear hb g0 g1 ZF
    have lc:=LC.out _ HQ5.out
    simp only[Nat.add_zero] at lc
    clear LC
    replace F5:=F5.out
    replace HQ5:=HQ5.out
    generalize hq:res=q at *
    obtain⟨g0,g1⟩:=F5.c2 1 rfl
    obtain⟨u0,u1⟩:=F5.c2 3 rfl
    obtain⟨v0,v1⟩:=F5.f2 3 rfl
    have ce:=F5.cell 2 0 rfl rfl
    have fe:=F5.fz 2 0 rfl rfl
    have PA:=F5.put 3 rfl (wdV (decide (q<0)) (some ⟨bq,oq,none⟩) kq cq) rfl
    have PP:=PA.put 2 rfl [.int .i64 0] rfl
    have R:=Lib.hid (show Wide w.heap.size ((w9.setCells (w.heap.size+1) 0 (wdV (decide (q<0)) (some ⟨bq,oq,none⟩) kq cq)).setCells (w.heap.size+1+1) 0 [.int .i64 0]) (.agg (wdV (decide (q<0)) (some ⟨bq,oq,none⟩) kq cq).toArray) (q) from wideOf ((HQ5.setCells (fun b off e=>by have:=zq.out b off e;omega) _ _).setCells (fun b off e=>by have:=zq.out b off e;omega) _ _) (fun b off e=>by have:=zq.out b off e;omega))
    have G:=Lib.hid (PP.get 3 rfl)
    have hc:=PP.cell 2 0 rfl rfl
    have B:=Lib.hid PP.below
    have hc2:(((w9.setCell ⟨w.heap.size+1,0,none⟩ (.bool (decide (q<0)))).setCell ⟨w.heap.size+1,1,none⟩ (.slice (some ⟨bq,oq,none⟩) kq cq)).setCell ⟨w.heap.size+1+1,0,none⟩ (.int .i64 0)).cell? ⟨w.heap.size+1+1,0,none⟩=some (.int .i64 0):=hc
    replace hc2:=Lib.hid hc2
    clear PA PP hc F5 HQ5 zq
    go_wp2_with fail
    refine leaves_cons (f:=140) (args:=#[.pointer (some ⟨w.heap.size+1+1,0,none⟩)]) (by simp) (by simp[go_sem]) ?_
    refine(catch_idle ⟨w.heap.size+1+1,0,none⟩ _).mono ?_
    rintro e u' w'' ⟨rfl,rfl,rfl⟩
    exact⟨_,ret_cells Tryz.results129 _ _ (w.heap.size+1) (w.heap.size+1+1) _ (.int .i64 0) _ rfl rfl G.out Tryz.underlying66 rfl infoW (by simp[go_sem,hc2.out]),_,rfl,R.out,B.out⟩
 ·have e1:cmpZ (m+m) (dn:Int)=1:=by unfold cmpZ;rw[if_neg (by omega),if_pos g]
  have e2:res=q+1:=by rw[RR.out,if_pos (Or.inl g)]
  have AL:=Lib.hid (show (canon q.natAbs).length+(canon (1:Int).natAbs).length+1≤4096 by rw[HQ5.out.len];have:(canon (1:Int).natAbs).length≤1:=canon_len 1 _ (by decide);omega)
  rw[e1]
  subst e2
  clear RR g e1
  have F5':=Lib.hid F5.out.drew
  have HQ':=Lib.hid (HQ5.out.below (Below.refl _ w').drew)
  clear F5 HQ5 zq
  go_wp2_with fail
  refine wp_region_held_drew (S:=fun _=>True) (by kernel_rfl) trivial (fun hHeld=>?_)
  generalize w'.drew=wd at *
  refine wpAnyH_ready (rs:=[0,1]) (by kernel_rfl) (by simp) ?_
  refine AllReadyH.cons rfl (fun K' hK=>?_) (AllReadyH.cons rfl (fun K' hK=>?_) AllReadyH.nil)
  ·have g0:=F5'.out.cell 1 0 rfl rfl
   have g1:=F5'.out.cell 1 1 rfl rfl
   clear hHeld
   go_simp
   clear g0 g1
   refine hK.out _ _ (trivial) (fun hHeld=>?_)
   clear hK
   try simp only[Act.put,Lw.s1,Lw.s2,Lw.s3]
   refine wpAnyH_ready (rs:=[1]) (by kernel_rfl) (by simp) ?_
   refine AllReadyH.cons rfl (fun K' hK=>?_) AllReadyH.nil
   clear hHeld
   go_simp
   refine(one_any _).mono ?_
   rintro e w6 ⟨V,rfl,hV,hb⟩
   obtain⟨az,kz,cz,rfl,hM, -⟩:=wideN_inv (p:=1) hV
   have F6:=Lib.hid (F5'.out.call hb)
   have HM:=Lib.hid hM
   have HQ6:=Lib.hid (HQ'.out.below hb)
   clear hV hM hb
   refine hK.out _ _ (trivial) (fun hHeld=>?_)
   clear hK
   try simp only[Act.put,Lw.s1,Lw.s2,Lw.s3]
   refine wpAnyH_ready (rs:=[2]) (by kernel_rfl) (by simp) ?_
   refine AllReadyH.cons rfl (fun K' hK=>?_) AllReadyH.nil
   clear hHeld
   go_simp
   refine(addZ_any _ _ q 1 _ (wide0 HQ6.out) (show Wide 0 _ _ 1 from wide0N (p:=1) HM.out) AL.out).mono ?_
   rintro e w7 ⟨V,rfl,⟨ax,kx,cx,rfl,hX,hgx⟩,hb⟩
   have F7:=Lib.hid (F6.out.call hb)
   have HX:=Lib.hid hX
   have HGX:=Lib.hid hgx
   clear hX hgx hb
   refine hK.out _ _ (trivial) (fun hHeld=>?_)
   clear hK
   try simp only[Act.put,Lw.s1,Lw.s2,Lw.s3]
   refine wpAnyH_take (i:=3) (oi:=?oi3x5) (v:=?v3x5) ?hi3x5 (by kernel_rfl) (by kernel_rfl) (by kernel_rfl) ?hq3x5 ?hy3x5 hHeld ?rest3x5
   case hi3x5=>((try simp only[List.getElem?_toArray,List.getElem?_cons_succ,List.getElem?_cons_zero]);(try rfl))
   case hq3x5=>exact fun c a w h=>round_put _ _ _ (by decide) (by decide) c a w h
   case hy3x5=>exact Or.inl ⟨by rfl,by intro w hSw;clear hSw;go_simp;try with_reducible rfl⟩
   try simp only[Act.put,Lw.s1,Lw.s2,Lw.s3]
   refine wpAnyH_take (i:=4) (oi:=?oi4x6) (v:=?v4x6) ?hi4x6 (by kernel_rfl) (by kernel_rfl) (by kernel_rfl) ?hq4x6 ?hy4x6 hHeld ?rest4x6
   case hi4x6=>((try simp only[List.getElem?_toArray,List.getElem?_cons_succ,List.getElem?_cons_zero]);(try rfl))
   case hq4x6=>exact fun c a w h=>round_put _ _ _ (by decide) (by decide) c a w h
   case hy4x6=>exact Or.inl ⟨by rfl,by intro w hSw;clear hSw;go_simp;try with_reducible rfl⟩
   try simp only[Act.put,Lw.s1,Lw.s2,Lw.s3]
   refine wpAnyH_ready (rs:=[5]) (by kernel_rfl) (by simp) ?_
   refine AllReadyH.cons rfl (fun K' hK=>?_) AllReadyH.nil
   clear hHeld
   go_simp
   refine(must_walk _ _ _ _ _).mono ?_
   rintro e w8 ⟨rfl,hb⟩
   have F8:=Lib.hid (F7.out.call hb)
   have HX8:=Lib.hid (HX.out.below hb)
   clear hb
   refine hK.out _ _ (trivial) (fun hHeld=>?_)
   clear hK
   try simp only[Act.put,Lw.s1,Lw.s2,Lw.s3]
   refine wpAnyH_ready (rs:=[6]) (by kernel_rfl) (by simp) ?_
   refine AllReadyH.cons rfl (fun K' hK=>?_) AllReadyH.nil
   obtain⟨s0,s1⟩:=F8.out.c2 1 rfl
   obtain⟨s2,s3⟩:=F8.out.f2 1 rfl
   clear hHeld
   go_simp
   clear s0 s1 s2 s3
   refine hK.out _ _ (trivial) (fun hHeld=>?_)
   clear hK
   try simp only[Act.put,Lw.s1,Lw.s2,Lw.s3]
   refine wpAnyH_done (by kernel_rfl) ?_ _
   clear hHeld
   have zq:=Lib.hid (fun b off e=>(show w2.heap.size+1<b by have:=HGX.out b off e;have:=(F6.out.least 0 rfl).2;omega))
   have F9:=F8.out.put 1 rfl (wdV (decide (q+1<0)) ax kx cx) rfl
   have HQ9:=(HX8.out.setCells (c:=w2.heap.size) (fun b off e=>by have:=zq.out b off e;omega) 0 (wdV (decide (q+1<0)) ax kx cx))
   have zq:=Lib.hid (fun b off e=>(show w.heap.size+3≤b by have:=zq.out b off e;have:=bw2;omega))
   have e3:(w8.setCell ⟨w2.heap.size,0,none⟩ (.bool (decide (q+1<0)))).setCell ⟨w2.heap.size,1,none⟩ (.slice ax kx cx)=w8.setCells w2.heap.size 0 (wdV (decide (q+1<0)) ax kx cx):=rfl
   obtain⟨W9,hW9⟩:∃ W9,W9=w8.setCells w2.heap.size 0 (wdV (decide (q+1<0)) ax kx cx):=⟨_,rfl⟩
   rw[← hW9] at F9 HQ9 e3
   rw[e3]
   have F5:=F9
   have HQ5:=HQ9
   clear e3 hW9 F9 HQ9 F8 HX8 HX HGX F7 F6 HM HQ6 F5' HQ'
   obtain⟨g0,g1⟩:=F5.c2 1 rfl
   obtain⟨u0,u1⟩:=F5.c2 3 rfl
   obtain⟨v0,v1⟩:=F5.f2 3 rfl
   have ce:=F5.cell 2 0 rfl rfl
   have fe:=F5.fz 2 0 rfl rfl
   have PA:=F5.put 3 rfl (wdV (decide (q+1<0)) ax kx cx) rfl
   have PP:=PA.put 2 rfl [.int .i64 0] rfl
   have R:=Lib.hid (show Wide w.heap.size ((W9.setCells (w.heap.size+1) 0 (wdV (decide (q+1<0)) ax kx cx)).setCells (w.heap.size+1+1) 0 [.int .i64 0]) (.agg (wdV (decide (q+1<0)) ax kx cx).toArray) (q+1) from wideOf ((HQ5.setCells (fun b off e=>by have:=zq.out b off e;omega) _ _).setCells (fun b off e=>by have:=zq.out b off e;omega) _ _) (fun b off e=>by have:=zq.out b off e;omega))
   have G:=Lib.hid (PP.get 3 rfl)
   have hc:=PP.cell 2 0 rfl rfl
   have B:=Lib.hid PP.below
   have hc2:(((W9.setCell ⟨w.heap.size+1,0,none⟩ (.bool (decide (q+1<0)))).setCell ⟨w.heap.size+1,1,none⟩ (.slice ax kx cx)).setCell ⟨w.heap.size+1+1,0,none⟩ (.int .i64 0)).cell? ⟨w.heap.size+1+1,0,none⟩=some (.int .i64 0):=hc
   replace hc2:=Lib.hid hc2
   clear PA PP hc F5 HQ5 zq
   go_wp2_with fail
   refine leaves_cons (f:=140) (args:=#[.pointer (some ⟨w.heap.size+1+1,0,none⟩)]) (by simp) (by simp[go_sem]) ?_
   refine(catch_idle ⟨w.heap.size+1+1,0,none⟩ _).mono ?_
   rintro e u' w'' ⟨rfl,rfl,rfl⟩
   exact⟨_,ret_cells Tryz.results129 _ _ (w.heap.size+1) (w.heap.size+1+1) _ (.int .i64 0) _ rfl rfl G.out Tryz.underlying66 rfl infoW (by simp[go_sem,hc2.out]),_,rfl,R.out,B.out⟩
  ·clear hHeld
   go_simp
   refine(one_any _).mono ?_
   rintro e w6 ⟨V,rfl,hV,hb⟩
   obtain⟨az,kz,cz,rfl,hM, -⟩:=wideN_inv (p:=1) hV
   have F6:=Lib.hid (F5'.out.call hb)
   have HM:=Lib.hid hM
   have HQ6:=Lib.hid (HQ'.out.below hb)
   clear hV hM hb
   refine hK.out _ _ (trivial) (fun hHeld=>?_)
   clear hK
   try simp only[Act.put,Lw.s1,Lw.s2,Lw.s3]
   refine wpAnyH_ready (rs:=[0]) (by kernel_rfl) (by simp) ?_
   refine AllReadyH.cons rfl (fun K' hK=>?_) AllReadyH.nil
   obtain⟨g0,g1⟩:=F6.out.c2 1 rfl
   clear hHeld
   go_simp
   clear g0 g1
   refine hK.out _ _ (trivial) (fun hHeld=>?_)
   clear hK
   try simp only[Act.put,Lw.s1,Lw.s2,Lw.s3]
   refine wpAnyH_ready (rs:=[2]) (by kernel_rfl) (by simp) ?_
   refine AllReadyH.cons rfl (fun K' hK=>?_) AllReadyH.nil
   clear hHeld
   go_simp
   refine(addZ_any _ _ q 1 _ (wide0 HQ6.out) (show Wide 0 _ _ 1 from wide0N (p:=1) HM.out) AL.out).mono ?_
   rintro e w7 ⟨V,rfl,⟨ax,kx,cx,rfl,hX,hgx⟩,hb⟩
   have F7:=Lib.hid (F6.out.call hb)
   have HX:=Lib.hid hX
   have HGX:=Lib.hid hgx
   clear hX hgx hb
   refine hK.out _ _ (trivial) (fun hHeld=>?_)
   clear hK
   try simp only[Act.put,Lw.s1,Lw.s2,Lw.s3]
   refine wpAnyH_take (i:=3) (oi:=?oi3x7) (v:=?v3x7) ?hi3x7 (by kernel_rfl) (by kernel_rfl) (by kernel_rfl) ?hq3x7 ?hy3x7 hHeld ?rest3x7
   case hi3x7=>((try simp only[List.getElem?_toArray,List.getElem?_cons_succ,List.getElem?_cons_zero]);(try rfl))
   case hq3x7=>exact fun c a w h=>round_put _ _ _ (by decide) (by decide) c a w h
   case hy3x7=>exact Or.inl ⟨by rfl,by intro w hSw;clear hSw;go_simp;try with_reducible rfl⟩
   try simp only[Act.put,Lw.s1,Lw.s2,Lw.s3]
   refine wpAnyH_take (i:=4) (oi:=?oi4x8) (v:=?v4x8) ?hi4x8 (by kernel_rfl) (by kernel_rfl) (by kernel_rfl) ?hq4x8 ?hy4x8 hHeld ?rest4x8
   case hi4x8=>((try simp only[List.getElem?_toArray,List.getElem?_cons_succ,List.getElem?_cons_zero]);(try rfl))
   case hq4x8=>exact fun c a w h=>round_put _ _ _ (by decide) (by decide) c a w h
   case hy4x8=>exact Or.inl ⟨by rfl,by intro w hSw;clear hSw;go_simp;try with_reducible rfl⟩
   try simp only[Act.put,Lw.s1,Lw.s2,Lw.s3]
   refine wpAnyH_ready (rs:=[5]) (by kernel_rfl) (by simp) ?_
   refine AllReadyH.cons rfl (fun K' hK=>?_) AllReadyH.nil
   clear hHeld
   go_simp
   refine(must_walk _ _ _ _ _).mono ?_
   rintro e w8 ⟨rfl,hb⟩
   have F8:=Lib.hid (F7.out.call hb)
   have HX8:=Lib.hid (HX.out.below hb)
   clear hb
   refine hK.out _ _ (trivial) (fun hHeld=>?_)
   clear hK
   try simp only[Act.put,Lw.s1,Lw.s2,Lw.s3]
   refine wpAnyH_ready (rs:=[6]) (by kernel_rfl) (by simp) ?_
   refine AllReadyH.cons rfl (fun K' hK=>?_) AllReadyH.nil
   obtain⟨s0,s1⟩:=F8.out.c2 1 rfl
   obtain⟨s2,s3⟩:=F8.out.f2 1 rfl
   clear hHeld
   go_simp
   clear s0 s1 s2 s3
   refine hK.out _ _ (trivial) (fun hHeld=>?_)
   clear hK
   try simp only[Act.put,Lw.s1,Lw.s2,Lw.s3]
   refine wpAnyH_done (by kernel_rfl) ?_ _
   clear hHeld
   have zq:=Lib.hid (fun b off e=>(show w2.heap.size+1<b by have:=HGX.out b off e;have:=(F6.out.least 0 rfl).2;omega))
   have F9:=F8.out.put 1 rfl (wdV (decide (q+1<0)) ax kx cx) rfl
   have HQ9:=(HX8.out.setCells (c:=w2.heap.size) (fun b off e=>by have:=zq.out b off e;omega) 0 (wdV (decide (q+1<0)) ax kx cx))
   have zq:=Lib.hid (fun b off e=>(show w.heap.size+3≤b by have:=zq.out b off e;have:=bw2;omega))
   have e3:(w8.setCell ⟨w2.heap.size,0,none⟩ (.bool (decide (q+1<0)))).setCell ⟨w2.heap.size,1,none⟩ (.slice ax kx cx)=w8.setCells w2.heap.size 0 (wdV (decide (q+1<0)) ax kx cx):=rfl
   obtain⟨W9,hW9⟩:∃ W9,W9=w8.setCells w2.heap.size 0 (wdV (decide (q+1<0)) ax kx cx):=⟨_,rfl⟩
   rw[← hW9] at F9 HQ9 e3
   rw[e3]
   have F5:=F9
   have HQ5:=HQ9
   clear e3 hW9 F9 HQ9 F8 HX8 HX HGX F7 F6 HM HQ6 F5' HQ'
   obtain⟨g0,g1⟩:=F5.c2 1 rfl
   obtain⟨u0,u1⟩:=F5.c2 3 rfl
   obtain⟨v0,v1⟩:=F5.f2 3 rfl
   have ce:=F5.cell 2 0 rfl rfl
   have fe:=F5.fz 2 0 rfl rfl
   have PA:=F5.put 3 rfl (wdV (decide (q+1<0)) ax kx cx) rfl
   have PP:=PA.put 2 rfl [.int .i64 0] rfl
   have R:=Lib.hid (show Wide w.heap.size ((W9.setCells (w.heap.size+1) 0 (wdV (decide (q+1<0)) ax kx cx)).setCells (w.heap.size+1+1) 0 [.int .i64 0]) (.agg (wdV (decide (q+1<0)) ax kx cx).toArray) (q+1) from wideOf ((HQ5.setCells (fun b off e=>by have:=zq.out b off e;omega) _ _).setCells (fun b off e=>by have:=zq.out b off e;omega) _ _) (fun b off e=>by have:=zq.out b off e;omega))
   have G:=Lib.hid (PP.get 3 rfl)
   have hc:=PP.cell 2 0 rfl rfl
   have B:=Lib.hid PP.below
   have hc2:(((W9.setCell ⟨w.heap.size+1,0,none⟩ (.bool (decide (q+1<0)))).setCell ⟨w.heap.size+1,1,none⟩ (.slice ax kx cx)).setCell ⟨w.heap.size+1+1,0,none⟩ (.int .i64 0)).cell? ⟨w.heap.size+1+1,0,none⟩=some (.int .i64 0):=hc
   replace hc2:=Lib.hid hc2
   clear PA PP hc F5 HQ5 zq
   go_wp2_with fail
   refine leaves_cons (f:=140) (args:=#[.pointer (some ⟨w.heap.size+1+1,0,none⟩)]) (by simp) (by simp[go_sem]) ?_
   refine(catch_idle ⟨w.heap.size+1+1,0,none⟩ _).mono ?_
   rintro e u' w'' ⟨rfl,rfl,rfl⟩
   exact⟨_,ret_cells Tryz.results129 _ _ (w.heap.size+1) (w.heap.size+1+1) _ (.int .i64 0) _ rfl rfl G.out Tryz.underlying66 rfl infoW (by simp[go_sem,hc2.out]),_,rfl,R.out,B.out⟩
end Wd
end Go.Proofs.YtdnogmanbdgadaaGreatDoor
