/-
  Lemmas and walks, texts joined: QDot2.
-/
import Derived.Test.YtdnogmanbdgadaaGreatDoorTb27
set_option linter.unusedSimpArgs false
set_option linter.unusedVariables false
set_option maxRecDepth 100000
set_option maxHeartbeats 40000000
namespace Go.Proofs.YtdnogmanbdgadaaGreatDoor
namespace Wd
open Go.RowKit Lw Tw

theorem dot_cs (V1:Value) (a b:Nat→Int) (n:Nat) (pa qa pb:Nat) (w:World) (h1:I6 w V1 (List.replicate n 1)) (hn:n≤200)
  (ha:∀ i,i<n→(a i).natAbs≤1099511627776) (hb:∀ i,i<n→(b i).natAbs≤1099511627776)
  (fa:∀ i:Nat,i<n → ∀ w',Below w.heap.size w w'→Calls Tryz.prog 174 #[.int .i64 i, .pointer (some ⟨pa,0,none⟩), .pointer (some ⟨qa,0,none⟩)] w' fun e w2=>e = .returned (.int .i64 (a i))∧Below w'.heap.size w' w2)
  (fb:∀ i:Nat,i<n → ∀ w',Below w.heap.size w w'→Calls Tryz.prog 175 #[.int .i64 i, .pointer (some ⟨pb,0,none⟩)] w' fun e w2=>e = .returned (.int .i64 (b i))∧Below w'.heap.size w' w2) :
  Calls Tryz.prog 176 #[V1, .func (.func 174) #[] #[.pointer (some ⟨pa,0,none⟩), .pointer (some ⟨qa,0,none⟩)], .func (.func 175) #[] #[.pointer (some ⟨pb,0,none⟩)]] w fun e w'=>∃ V,e = .returned V∧FracR w.heap.size w' V ((Ls.S a b n:Int):Rat)∧Below w.heap.size w w':=by
 have CA:=Lib.hid fa
 have CB:=Lib.hid fb
 have RA:=Lib.hid (fun i (hi:i<n)=>(show -9223372036854775808≤a i∧a i<9223372036854775808 by have:=ha i hi;omega))
 have RB:=Lib.hid (fun i (hi:i<n)=>(show -9223372036854775808≤b i∧b i<9223372036854775808 by have:=hb i hi;omega))
 have LL:=Lib.hid (fun i (hi:i<n)=>(show (canon (a i).natAbs).length≤2∧(canon (b i).natAbs).length≤2 from⟨canon_len 2 _ (by have:=ha i hi;omega),canon_len 2 _ (by have:=hb i hi;omega)⟩))
 have SL:=Lib.hid (fun j (hj:j≤n)=>S_len (n:=j) (by omega) (fun i h=>ha i (by omega)) (fun i h=>hb i (by omega)))
 obtain⟨A3,p3,rfl,hR⟩:=h1
 rw[List.length_replicate] at *
 have H1:=Lib.hid hR
 have F0:=((Fr.start w).alloc (frV false none 0 0 false none 0 0) 68).alloc (wdV false none 0 0) 66
 simp only[World.size_alloc] at F0
 obtain⟨q,hq⟩:∃ q:Rat,q=((Ls.S a b n:Int):Rat):=⟨_,rfl⟩
 rw[← hq]
 have HQ:=Lib.hid hq
 clear hq
 have st:=Lib.hid (show DotR w a b n (.int .i64 0) _ from⟨0,0,none,0,0,by omega,rfl,rfl,F0,by rw[show (0:Int).natAbs=0 from rfl,canon_zero];exact Lim.nil _,fun b off e=>by cases e⟩)
 clear ha hb fa fb hR F0
 go_enter Tryz.func176,Tryz.ntmps176
 go_wp2_with fail
 go_loopw [8,9,14] (fun _ _ i wr=>DotR w a b n i wr) (fun _ _ i _=>n-(intOf i).toNat)
 case atStart=>exact st.out
 case round =>
  clear st
  obtain⟨j,z,x,k,c,hj,rfl,hz,hF,hS,hx⟩:=hrel
  by_cases hjn:j<n
  ·have rc:∃ g,A3=some ⟨g,0,none⟩∧g<w.heap.size∧w.cell? ⟨g,j,none⟩=some (.int .i64 1):=by
    obtain⟨g,e,lt,r⟩:=rows_cell1 H1.out (i:=j) (by rw[List.length_replicate];exact hjn)
    exact⟨g,e,lt,by rw[r,List.getElem_replicate]⟩
   obtain⟨g,rfl,lt,cA⟩:=rc
   replace cA:=(hF.below.cell (p:=⟨g,j,none⟩) lt).trans cA
   have i1:(j:Int)<(n:Int):=by omega
   have FF:=Lib.hid hF.drew
   have HS:=Lib.hid (hS.below (Below.refl _ wr).drew)
   have LAB:=Lib.hid (show (canon (a j).natAbs).length+(canon (b j).natAbs).length≤4096 by have:=LL.out j hjn;omega)
   have lab:(canon (a j*b j).natAbs).length≤4:=by have:=len_mulZ (a j) (b j);have:=LL.out j hjn;omega
   have LM:=Lib.hid (show (canon (1:Int).natAbs).length+(canon (a j*b j).natAbs).length≤4096 by have:(canon (1:Int).natAbs).length≤1:=canon_len 1 _ (by decide);omega)
   have LS:=Lib.hid (show (canon z.natAbs).length+(canon (a j*b j).natAbs).length+1≤4096 by rw[hz];have:=SL.out j hj;omega)
   replace hz:=Lib.hid hz
   clear hF hS hx lab H1 LL SL lt
   go_wp2_with fail
   clear cA
   refine TillSt.start (fun w'=>w'.cell? ⟨w.heap.size+1,0,none⟩=some (.bool (decide (z<0)))∧w'.cell? ⟨w.heap.size+1,1,none⟩=some (.slice x k c)) 17 (by kernel_rfl) (FF.out.c2 0 rfl) (fun hHeld=>?_)
   generalize wr.drew=wd at *
   refine TillSt.tL 0 hHeld (hy:=Or.inl ⟨by rfl,by intro w hSw;obtain⟨q1,q2⟩:=hSw;go_simp;try with_reducible rfl⟩) (h:=?_)
   refine TillSt.tP 1 (fun _=>hHeld) ?_
   refine TillSt.tP 3 (fun _=>hHeld) ?_
   refine TillSt.tP 4 (fun _=>hHeld) ?_
   refine TillSt.tP 7 (fun _=>hHeld) ?_
   refine TillSt.tP 8 (fun _=>hHeld) ?_
   refine TillSt.nx [2] ?_
   refine NextSt.cons rfl (fun K' hK=>?_) NextSt.nil
   clear hHeld
   go_simp
   refine(from_walk 1 _ (by decide) (by decide)).mono ?_
   rintro e wx ⟨V2,rfl,hV,hb⟩
   replace FF:=Lib.hid (FF.out.call hb)
   replace HS:=Lib.hid (HS.out.below hb)
   have H2:=Lib.hid (hV.mono (Nat.zero_le _))
   clear hV hb
   refine hK.out _ _ ((FF.out.c2 0 rfl)) (fun hHeld=>?_)
   clear hK
   try simp only[Act.put,Lw.s1,Lw.s2,Lw.s3]
   refine TillSt.nx [5] ?_
   refine NextSt.cons rfl (fun K' hK=>?_) NextSt.nil
   clear hHeld
   go_simp
   go_at_call 174
   refine(CA.out j hjn _ FF.out.below).mono ?_
   rintro e wx ⟨rfl,hb⟩
   replace FF:=Lib.hid (FF.out.call hb)
   replace HS:=Lib.hid (HS.out.below hb)
   replace H2:=Lib.hid (H2.out.below hb)
   clear hb
   refine hK.out _ _ ((FF.out.c2 0 rfl)) (fun hHeld=>?_)
   clear hK
   try simp only[Act.put,Lw.s1,Lw.s2,Lw.s3]
   refine TillSt.nx [6] ?_
   refine NextSt.cons rfl (fun K' hK=>?_) NextSt.nil
   clear hHeld
   go_simp
   refine(from_walk (a j) _ (RA.out j hjn).1 (RA.out j hjn).2).mono ?_
   rintro e wx ⟨V6,rfl,hV,hb⟩
   replace FF:=Lib.hid (FF.out.call hb)
   replace HS:=Lib.hid (HS.out.below hb)
   replace H2:=Lib.hid (H2.out.below hb)
   have H6:=Lib.hid (hV.mono (Nat.zero_le _))
   clear hV hb
   refine hK.out _ _ ((FF.out.c2 0 rfl)) (fun hHeld=>?_)
   clear hK
   try simp only[Act.put,Lw.s1,Lw.s2,Lw.s3]
   refine TillSt.nx [9] ?_
   refine NextSt.cons rfl (fun K' hK=>?_) NextSt.nil
   clear hHeld
   go_simp
   go_at_call 175
   refine(CB.out j hjn _ FF.out.below).mono ?_
   rintro e wx ⟨rfl,hb⟩
   replace FF:=Lib.hid (FF.out.call hb)
   replace HS:=Lib.hid (HS.out.below hb)
   replace H2:=Lib.hid (H2.out.below hb)
   replace H6:=Lib.hid (H6.out.below hb)
   clear hb
   refine hK.out _ _ ((FF.out.c2 0 rfl)) (fun hHeld=>?_)
   clear hK
   try simp only[Act.put,Lw.s1,Lw.s2,Lw.s3]
   refine TillSt.nx [10] ?_
   refine NextSt.cons rfl (fun K' hK=>?_) NextSt.nil
   clear hHeld
   go_simp
   refine(from_walk (b j) _ (RB.out j hjn).1 (RB.out j hjn).2).mono ?_
   rintro e wx ⟨V10,rfl,hV,hb⟩
   replace FF:=Lib.hid (FF.out.call hb)
   replace HS:=Lib.hid (HS.out.below hb)
   replace H2:=Lib.hid (H2.out.below hb)
   replace H6:=Lib.hid (H6.out.below hb)
   have H10:=Lib.hid (hV.mono (Nat.zero_le _))
   clear hV hb
   refine hK.out _ _ ((FF.out.c2 0 rfl)) (fun hHeld=>?_)
   clear hK
   try simp only[Act.put,Lw.s1,Lw.s2,Lw.s3]
   refine TillSt.nx [11] ?_
   refine NextSt.cons rfl (fun K' hK=>?_) NextSt.nil
   clear hHeld
   go_simp
   refine(lmul_any V6 V10 (a j) (b j) _ H6.out H10.out LAB.out).mono ?_
   rintro e wx ⟨V11,rfl,hV,hb⟩
   replace FF:=Lib.hid (FF.out.call hb)
   replace HS:=Lib.hid (HS.out.below hb)
   replace H2:=Lib.hid (H2.out.below hb)
   have H11:=Lib.hid (hV.mono (Nat.zero_le _))
   clear hV hb H6 H10
   refine hK.out _ _ ((FF.out.c2 0 rfl)) (fun hHeld=>?_)
   clear hK
   try simp only[Act.put,Lw.s1,Lw.s2,Lw.s3]
   refine TillSt.nx [12] ?_
   refine NextSt.cons rfl (fun K' hK=>?_) NextSt.nil
   clear hHeld
   go_simp
   refine(lmul_any V2 V11 1 (a j*b j) _ H2.out H11.out LM.out).mono ?_
   rintro e wx ⟨V12,rfl,hV,hb⟩
   replace FF:=Lib.hid (FF.out.call hb)
   replace HS:=Lib.hid (HS.out.below hb)
   rw[Int.one_mul] at hV
   have H12:=Lib.hid (hV.mono (Nat.zero_le _))
   clear hV hb H2 H11
   refine hK.out _ _ ((FF.out.c2 0 rfl)) (fun hHeld=>?_)
   clear hK
   try simp only[Act.put,Lw.s1,Lw.s2,Lw.s3]
   refine TillSt.nx [13] ?_
   refine NextSt.cons rfl (fun K' hK=>?_) NextSt.nil
   clear hHeld
   go_simp
   refine(addZ_any _ V12 z (a j*b j) _ (wide0 HS.out) H12.out LS.out).mono ?_
   rintro e wx ⟨V13,rfl,⟨x2,k2,c2,rfl,hL,hg⟩,hb⟩
   have lo:=(FF.out.least 0 rfl).2
   replace FF:=Lib.hid (FF.out.call hb)
   have HL:=Lib.hid hL
   have HG:=Lib.hid (fun b off e=>(show w.heap.size+2≤b by have:=hg b off e;omega))
   clear hL hg hb lo H12 HS
   refine hK.out _ _ ((FF.out.c2 0 rfl)) (fun hHeld=>?_)
   clear hK
   try simp only[Act.put,Lw.s1,Lw.s2,Lw.s3]
   refine TillSt.tP 14 (fun _=>hHeld) ?_
   refine TillSt.tP 15 (fun _=>hHeld) ?_
   refine TillSt.tP 16 (fun _=>hHeld) ?_
   refine TillSt.nx [17] ?_
   refine NextSt.last rfl (by kernel_rfl) (fun K' hK=>?_) NextSt.nil
   obtain⟨s0,s1⟩:=FF.out.c2 0 rfl
   obtain⟨s2,s3⟩:=FF.out.f2 0 rfl
   clear hHeld
   go_simp
   clear s0 s1 s2 s3
   refine hK.out _ _ ?_
   clear hK
   try simp only[Act.put,Lw.s1,Lw.s2,Lw.s3]
   refine TillSt.done (by kernel_rfl) ?_ _
   have PP:=FF.out.put 0 rfl (wdV (decide (z+a j*b j<0)) x2 k2 c2) rfl
   have HP:=HL.out.setCells (c:=w.heap.size+1) (fun b off e=>by have:=HG.out b off e;omega) 0 (wdV (decide (z+a j*b j<0)) x2 k2 c2)
   have st:=Lib.hid (show DotR w a b n (.int .i64 ((j:Int)+1)) _ from⟨j+1,z+a j*b j,x2,k2,c2,by omega,by simp,by rw[hz.out,Ls.S,Int.one_mul],PP,HP,HG.out⟩)
   clear PP HP FF HL HG
   go_wp2_with fail
   go_roundw
   case rel=>exact st.out
   case measure=>simp[intOf];omega
  ·obtain rfl:j=n:=by omega
   have hsl:=SL.out j (Nat.le_refl _)
   rw[← hz] at hsl
   have eq:((z:Int):Rat)=q:=by rw[hz,HQ.out]
   have FP:=hF.two
   have HS:=Lib.hid hS
   have lo:=(hF.least 0 rfl).2
   clear hz CA CB RA RB LL SL H1 hx hF hS hj
   go_wp2_with fail
   have MK:=Lib.hid (fun V1 V2 w' (h1:Wide 0 w' V1 z) (h2:Wide 0 w' V2 ((1:Nat):Int))=>make_any V1 V2 z 1 w' h1 h2 (by decide) (by omega) (Nat.le_trans (canon_len 1 1 (by decide)) (by decide)))
   rw[Rat.mkRat_one z,eq] at MK
   clear eq
   have FF:=Lib.hid (Fr2.fr FP).drew
   replace HS:=Lib.hid (HS.out.below (Below.refl _ wr).drew)
   replace lo:=Lib.hid (show w.heap.size+2≤wr.drew.heap.size from lo)
   clear FP
   refine TillSt.start (fun w'=>w'.cell? ⟨w.heap.size+1,0,none⟩=some (.bool (decide (z<0)))∧w'.cell? ⟨w.heap.size+1,1,none⟩=some (.slice x k c)) 7 (by kernel_rfl) (FF.out.c2 0 rfl) (fun hHeld=>?_)
   generalize wr.drew=wd at *
   refine TillSt.tL 0 hHeld (hy:=Or.inl ⟨by rfl,by intro w hSw;obtain⟨q1,q2⟩:=hSw;go_simp;try with_reducible rfl⟩) (h:=?_)
   refine TillSt.nx [1,6] ?_
   refine NextSt.cons rfl (fun K' hK=>?_) (NextSt.cons rfl (fun K' hK=>?_) NextSt.nil)
   ·
    clear hHeld
    go_simp
    refine(from_walk 1 _ (by decide) (by decide)).mono ?_
    rintro e w6 ⟨V6,rfl,hV,hb⟩
    replace FF:=Lib.hid (FF.out.call hb)
    replace HS:=Lib.hid (HS.out.below hb)
    replace lo:=Lib.hid (Nat.le_trans lo.out hb.size)
    have H6:=Lib.hid (show Wide 0 w6 V6 ((1:Nat):Int) from hV.mono (Nat.zero_le _))
    clear hV hb
    refine hK.out _ _ ((FF.out.c2 0 rfl)) (fun hHeld=>?_)
    clear hK
    try simp only[Act.put,Lw.s1,Lw.s2,Lw.s3]
    refine TillSt.nx [2,6] ?_
    refine NextSt.cons rfl (fun K' hK=>?_) (NextSt.cons rfl (fun K' hK=>?_) NextSt.nil)
    ·
     clear hHeld
     go_simp
     refine(MK.out _ V6 _ (wide0 HS.out) H6.out).mono ?_
     rintro e w7 ⟨V,rfl,⟨aq,kq,cq,aq2,kq2,cq2,rfl,l1,l2,f1,f2⟩,hb⟩
     have fq:=(FF.out.least 0 rfl).2
     replace FF:=Lib.hid (FF.out.call hb)
     have L1:=Lib.hid l1
     have L2:=Lib.hid l2
     have G1:=Lib.hid (fun b off e=>Nat.le_trans lo.out (f1 b off e))
     have G2:=Lib.hid (fun b off e=>Nat.le_trans lo.out (f2 b off e))
     have G3:=Lib.hid (fun b off e=>Nat.lt_of_lt_of_le fq (f1 b off e))
     have G4:=Lib.hid (fun b off e=>Nat.lt_of_lt_of_le fq (f2 b off e))
     clear l1 l2 f1 f2 hb fq H6 HS lo
     refine hK.out _ _ ((FF.out.c2 0 rfl)) (fun hHeld=>?_)
     clear hK
     try simp only[Act.put,Lw.s1,Lw.s2,Lw.s3]
     refine TillSt.tP 3 (fun _=>hHeld) ?_
     refine TillSt.tP 4 (fun _=>hHeld) ?_
     refine TillSt.tP 5 (fun _=>hHeld) ?_
     refine TillSt.nx [6] ?_
     refine NextSt.cons rfl (fun K' hK=>?_) NextSt.nil
     clear hHeld
     go_simp
     refine hK.out _ _ (⟨(FF.out.call ((Below.refl _ _).alloc (Nat.le_refl _) _)).cell 0 0 rfl rfl,(FF.out.call ((Below.refl _ _).alloc (Nat.le_refl _) _)).cell 0 1 rfl rfl⟩) (fun hHeld=>?_)
     clear hK
     try simp only[Act.put,Lw.s1,Lw.s2,Lw.s3]
     refine TillSt.nx [7] ?_
     refine NextSt.last rfl (by kernel_rfl) (fun K' hK=>?_) NextSt.nil
     clear hHeld
     go_simp
     refine hK.out _ _ ?_
     clear hK
     try simp only[Act.put,Lw.s1,Lw.s2,Lw.s3]
     refine TillSt.tP 8 (fun q=>by cases q) ?_
     refine TillSt.done (by kernel_rfl) ?_ _
     have ba:=(Below.refl _ w7).alloc (Nat.le_refl _) (.cells (frV (decide (q.num<0)) aq kq cq false aq2 kq2 cq2).toArray 68)
     have L1':=L1.out.below ba
     have L2':=L2.out.below ba
     have PQ:=FF.out.alloc (frV (decide (q.num<0)) aq kq cq false aq2 kq2 cq2) 68
     obtain⟨WN,hWN⟩:∃ WN,WN=w7.alloc (.cells (frV (decide (q.num<0)) aq kq cq false aq2 kq2 cq2).toArray 68):=⟨_,rfl⟩
     rw[← hWN] at L1' L2' PQ
     have e3:w7.alloc (.cells #[.bool (decide (q.num<0)), .slice aq kq cq, .bool false, .slice aq2 kq2 cq2] 68)=WN:=hWN.symm
     rw[e3]
     clear e3 hWN FF L1 L2 ba
     have F8:=PQ
     obtain⟨u0,u1,u2,u3⟩:=F8.c4 2 rfl
     obtain⟨v0,v1,v2,v3⟩:=F8.f4 2 rfl
     obtain⟨q0,q1,q2,q3⟩:=F8.c4 0 rfl
     have PP:=F8.put 2 rfl (frV (decide (q.num<0)) aq kq cq false aq2 kq2 cq2) rfl
     have R:=Lib.hid (show FracR w.heap.size (WN.setCells w.heap.size 0 (frV (decide (q.num<0)) aq kq cq false aq2 kq2 cq2)) (.agg (frV (decide (q.num<0)) aq kq cq false aq2 kq2 cq2).toArray) q from
      ⟨aq,kq,cq,aq2,kq2,cq2,rfl,L1'.setCells (fun b off e=>by have:=G1.out b off e;omega) _ _,L2'.setCells (fun b off e=>by have:=G2.out b off e;omega) _ _,fun b off e=>by have:=G1.out b off e;omega,fun b off e=>by have:=G2.out b off e;omega⟩)
     have G:=Lib.hid (PP.get 2 rfl)
     have B:=Lib.hid PP.below
     clear PP F8 PQ L1' L2' G1 G2 G3 G4 MK HQ
     go_wp2_with fail
     exact bodyPost_ret (ret_cell Tryz.results176 _ _ w.heap.size _ _ rfl G.out Tryz.underlying68 rfl infoF) rfl ⟨_,rfl,R.out,B.out⟩
    ·
     clear hHeld
     go_simp
     have FA:=FF.out.alloc (frV false none 0 0 false none 0 0) 68
     have ba:=(Below.refl _ w6).alloc (Nat.le_refl _) (.cells (frV false none 0 0 false none 0 0).toArray 68)
     replace HS:=Lib.hid (HS.out.below ba)
     replace lo:=Lib.hid (Nat.le_trans lo.out ba.size)
     replace H6:=Lib.hid (H6.out.below ba)
     replace FF:=Lib.hid FA
     clear FA ba
     generalize w6.heap.size=bN at *
     generalize World.alloc w6 (.cells #[.bool false, .slice none 0 0, .bool false, .slice none 0 0] 68)=wn at *
     refine hK.out _ _ ((FF.out.c2 1 rfl)) (fun hHeld=>?_)
     clear hK
     try simp only[Act.put,Lw.s1,Lw.s2,Lw.s3]
     refine TillSt.nx [2] ?_
     refine NextSt.cons rfl (fun K' hK=>?_) NextSt.nil
     clear hHeld
     go_simp
     refine(MK.out _ V6 _ (wide0 HS.out) H6.out).mono ?_
     rintro e w7 ⟨V,rfl,⟨aq,kq,cq,aq2,kq2,cq2,rfl,l1,l2,f1,f2⟩,hb⟩
     have fq:=(FF.out.least 0 rfl).2
     replace FF:=Lib.hid (FF.out.call hb)
     have L1:=Lib.hid l1
     have L2:=Lib.hid l2
     have G1:=Lib.hid (fun b off e=>Nat.le_trans lo.out (f1 b off e))
     have G2:=Lib.hid (fun b off e=>Nat.le_trans lo.out (f2 b off e))
     have G3:=Lib.hid (fun b off e=>Nat.lt_of_lt_of_le fq (f1 b off e))
     have G4:=Lib.hid (fun b off e=>Nat.lt_of_lt_of_le fq (f2 b off e))
     clear l1 l2 f1 f2 hb fq H6 HS lo
     refine hK.out _ _ ((FF.out.c2 1 rfl)) (fun hHeld=>?_)
     clear hK
     try simp only[Act.put,Lw.s1,Lw.s2,Lw.s3]
     refine TillSt.tP 3 (fun _=>hHeld) ?_
     refine TillSt.tP 4 (fun _=>hHeld) ?_
     refine TillSt.tP 5 (fun _=>hHeld) ?_
     refine TillSt.nx [7] ?_
     refine NextSt.last rfl (by kernel_rfl) (fun K' hK=>?_) NextSt.nil
     obtain⟨s0,s1,s2,s3⟩:=FF.out.c4 0 rfl
     obtain⟨s4,s5,s6,s7⟩:=FF.out.f4 0 rfl
     clear hHeld
     go_simp
     clear s0 s1 s2 s3 s4 s5 s6 s7
     refine hK.out _ _ ?_
     clear hK
     try simp only[Act.put,Lw.s1,Lw.s2,Lw.s3]
     refine TillSt.tP 8 (fun q=>by cases q) ?_
     refine TillSt.done (by kernel_rfl) ?_ _
     have L1':=L1.out.setCells (c:=bN) (fun b off e=>by have:=G3.out b off e;omega) 0 (frV (decide (q.num<0)) aq kq cq false aq2 kq2 cq2)
     have L2':=L2.out.setCells (c:=bN) (fun b off e=>by have:=G4.out b off e;omega) 0 (frV (decide (q.num<0)) aq kq cq false aq2 kq2 cq2)
     have PQ:=FF.out.put 0 rfl (frV (decide (q.num<0)) aq kq cq false aq2 kq2 cq2) rfl
     obtain⟨WN,hWN⟩:∃ WN,WN=World.setCells w7 bN 0 (frV (decide (q.num<0)) aq kq cq false aq2 kq2 cq2):=⟨_,rfl⟩
     rw[← hWN] at L1' L2' PQ
     have e3:(((w7.setCell ⟨bN,0,none⟩ (.bool (decide (q.num<0)))).setCell ⟨bN,1,none⟩ (.slice aq kq cq)).setCell ⟨bN,2,none⟩ (.bool false)).setCell ⟨bN,3,none⟩ (.slice aq2 kq2 cq2)=WN:=hWN.symm
     rw[e3]
     clear e3 hWN FF L1 L2
     have F8:=PQ
     obtain⟨u0,u1,u2,u3⟩:=F8.c4 2 rfl
     obtain⟨v0,v1,v2,v3⟩:=F8.f4 2 rfl
     obtain⟨q0,q1,q2,q3⟩:=F8.c4 0 rfl
     have PP:=F8.put 2 rfl (frV (decide (q.num<0)) aq kq cq false aq2 kq2 cq2) rfl
     have R:=Lib.hid (show FracR w.heap.size (WN.setCells w.heap.size 0 (frV (decide (q.num<0)) aq kq cq false aq2 kq2 cq2)) (.agg (frV (decide (q.num<0)) aq kq cq false aq2 kq2 cq2).toArray) q from
      ⟨aq,kq,cq,aq2,kq2,cq2,rfl,L1'.setCells (fun b off e=>by have:=G1.out b off e;omega) _ _,L2'.setCells (fun b off e=>by have:=G2.out b off e;omega) _ _,fun b off e=>by have:=G1.out b off e;omega,fun b off e=>by have:=G2.out b off e;omega⟩)
     have G:=Lib.hid (PP.get 2 rfl)
     have B:=Lib.hid PP.below
     clear PP F8 PQ L1' L2' G1 G2 G3 G4 MK HQ
     go_wp2_with fail
     exact bodyPost_ret (ret_cell Tryz.results176 _ _ w.heap.size _ _ rfl G.out Tryz.underlying68 rfl infoF) rfl ⟨_,rfl,R.out,B.out⟩
   ·
    clear hHeld
    go_simp
    have FA:=FF.out.alloc (frV false none 0 0 false none 0 0) 68
    have ba:=(Below.refl _ wd).alloc (Nat.le_refl _) (.cells (frV false none 0 0 false none 0 0).toArray 68)
    replace HS:=Lib.hid (HS.out.below ba)
    replace lo:=Lib.hid (Nat.le_trans lo.out ba.size)
    replace FF:=Lib.hid FA
    clear FA ba
    generalize wd.heap.size=bN at *
    generalize World.alloc wd (.cells #[.bool false, .slice none 0 0, .bool false, .slice none 0 0] 68)=wn at *
    refine hK.out _ _ ((FF.out.c2 1 rfl)) (fun hHeld=>?_)
    clear hK
    try simp only[Act.put,Lw.s1,Lw.s2,Lw.s3]
    refine TillSt.nx [1] ?_
    refine NextSt.cons rfl (fun K' hK=>?_) NextSt.nil
    clear hHeld
    go_simp
    refine(from_walk 1 _ (by decide) (by decide)).mono ?_
    rintro e w6 ⟨V6,rfl,hV,hb⟩
    replace FF:=Lib.hid (FF.out.call hb)
    replace HS:=Lib.hid (HS.out.below hb)
    replace lo:=Lib.hid (Nat.le_trans lo.out hb.size)
    have H6:=Lib.hid (show Wide 0 w6 V6 ((1:Nat):Int) from hV.mono (Nat.zero_le _))
    clear hV hb
    refine hK.out _ _ ((FF.out.c2 1 rfl)) (fun hHeld=>?_)
    clear hK
    try simp only[Act.put,Lw.s1,Lw.s2,Lw.s3]
    refine TillSt.nx [2] ?_
    refine NextSt.cons rfl (fun K' hK=>?_) NextSt.nil
    clear hHeld
    go_simp
    refine(MK.out _ V6 _ (wide0 HS.out) H6.out).mono ?_
    rintro e w7 ⟨V,rfl,⟨aq,kq,cq,aq2,kq2,cq2,rfl,l1,l2,f1,f2⟩,hb⟩
    have fq:=(FF.out.least 0 rfl).2
    replace FF:=Lib.hid (FF.out.call hb)
    have L1:=Lib.hid l1
    have L2:=Lib.hid l2
    have G1:=Lib.hid (fun b off e=>Nat.le_trans lo.out (f1 b off e))
    have G2:=Lib.hid (fun b off e=>Nat.le_trans lo.out (f2 b off e))
    have G3:=Lib.hid (fun b off e=>Nat.lt_of_lt_of_le fq (f1 b off e))
    have G4:=Lib.hid (fun b off e=>Nat.lt_of_lt_of_le fq (f2 b off e))
    clear l1 l2 f1 f2 hb fq H6 HS lo
    refine hK.out _ _ ((FF.out.c2 1 rfl)) (fun hHeld=>?_)
    clear hK
    try simp only[Act.put,Lw.s1,Lw.s2,Lw.s3]
    refine TillSt.tP 3 (fun _=>hHeld) ?_
    refine TillSt.tP 4 (fun _=>hHeld) ?_
    refine TillSt.tP 5 (fun _=>hHeld) ?_
    refine TillSt.nx [7] ?_
    refine NextSt.last rfl (by kernel_rfl) (fun K' hK=>?_) NextSt.nil
    obtain⟨s0,s1,s2,s3⟩:=FF.out.c4 0 rfl
    obtain⟨s4,s5,s6,s7⟩:=FF.out.f4 0 rfl
    clear hHeld
    go_simp
    clear s0 s1 s2 s3 s4 s5 s6 s7
    refine hK.out _ _ ?_
    clear hK
    try simp only[Act.put,Lw.s1,Lw.s2,Lw.s3]
    refine TillSt.tP 8 (fun q=>by cases q) ?_
    refine TillSt.done (by kernel_rfl) ?_ _
    have L1':=L1.out.setCells (c:=bN) (fun b off e=>by have:=G3.out b off e;omega) 0 (frV (decide (q.num<0)) aq kq cq false aq2 kq2 cq2)
    have L2':=L2.out.setCells (c:=bN) (fun b off e=>by have:=G4.out b off e;omega) 0 (frV (decide (q.num<0)) aq kq cq false aq2 kq2 cq2)
    have PQ:=FF.out.put 0 rfl (frV (decide (q.num<0)) aq kq cq false aq2 kq2 cq2) rfl
    obtain⟨WN,hWN⟩:∃ WN,WN=World.setCells w7 bN 0 (frV (decide (q.num<0)) aq kq cq false aq2 kq2 cq2):=⟨_,rfl⟩
    rw[← hWN] at L1' L2' PQ
    have e3:(((w7.setCell ⟨bN,0,none⟩ (.bool (decide (q.num<0)))).setCell ⟨bN,1,none⟩ (.slice aq kq cq)).setCell ⟨bN,2,none⟩ (.bool false)).setCell ⟨bN,3,none⟩ (.slice aq2 kq2 cq2)=WN:=hWN.symm
    rw[e3]
    clear e3 hWN FF L1 L2
    have F8:=PQ
    obtain⟨u0,u1,u2,u3⟩:=F8.c4 2 rfl
    obtain⟨v0,v1,v2,v3⟩:=F8.f4 2 rfl
    obtain⟨q0,q1,q2,q3⟩:=F8.c4 0 rfl
    have PP:=F8.put 2 rfl (frV (decide (q.num<0)) aq kq cq false aq2 kq2 cq2) rfl
    have R:=Lib.hid (show FracR w.heap.size (WN.setCells w.heap.size 0 (frV (decide (q.num<0)) aq kq cq false aq2 kq2 cq2)) (.agg (frV (decide (q.num<0)) aq kq cq false aq2 kq2 cq2).toArray) q from
     ⟨aq,kq,cq,aq2,kq2,cq2,rfl,L1'.setCells (fun b off e=>by have:=G1.out b off e;omega) _ _,L2'.setCells (fun b off e=>by have:=G2.out b off e;omega) _ _,fun b off e=>by have:=G1.out b off e;omega,fun b off e=>by have:=G2.out b off e;omega⟩)
    have G:=Lib.hid (PP.get 2 rfl)
    have B:=Lib.hid PP.below
    clear PP F8 PQ L1' L2' G1 G2 G3 G4 MK HQ
    go_wp2_with fail
    exact bodyPost_ret (ret_cell Tryz.results176 _ _ w.heap.size _ _ rfl G.out Tryz.underlying68 rfl infoF) rfl ⟨_,rfl,R.out,B.out⟩
end Wd
end Go.Proofs.YtdnogmanbdgadaaGreatDoor
