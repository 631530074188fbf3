/-
  Lemmas and walks, texts joined: QWhole.
-/
import Derived.Test.YtdnogmanbdgadaaGreatDoorTb31
set_option linter.unusedSimpArgs false
set_option linter.unusedVariables false
set_option maxRecDepth 100000
set_option maxHeartbeats 40000000
namespace Go.Proofs.YtdnogmanbdgadaaGreatDoor
namespace Wd
open Go.RowKit Lw Tw

theorem fill0 {M:List Int} (h:M.length=3):fillZ M 0 = [0,0,0]:=by simp[fillZ,h]
theorem fill3 {M:List Int} (h:M.length=3):fillZ M 3=M:=by rw[← h,fillZ_all]
theorem lwhole_any (g0 c0:Nat) (X Y:Value) (M:Nat→List Int) (w:World) (h:Mat w g0 X Y M) :
  Calls Tryz.prog 177 #[.slice (some ⟨g0,0,none⟩) 2 c0] w (WholePost M w):=by
 have F0:=((Fr.start w).alloc [.slice none 0 0, .slice none 0 0] 224).alloc [.slice none 0 0, .slice none 0 0] 224
 simp only[World.size_alloc] at F0
 have ST:=Lib.hid (show GSt w M 0 _ from⟨_,_,F0,Or.inl ⟨rfl,rfl,rfl⟩⟩)
 have HM:=Lib.hid h
 clear F0 h
 go_enter Tryz.func177,Tryz.ntmps177
 go_wp2_with fail
 go_loopw [5,6,8,9,10,11,12,13,16] (fun _ _ _ _ _ _ _ _ i wr=>∃ n:Nat,n≤2∧i = .int .i64 n∧GSt w M n wr) (fun _ _ _ _ _ _ _ _ i _=>2-(intOf i).toNat)
 case atStart=>exact⟨0,by omega,rfl,ST.out⟩
 case round =>
  clear ST
  obtain⟨i,hi2,rfl,hG⟩:=hrel
  by_cases hi:i<2
  ·obtain⟨V1,V2,H,L,hH,hL,hF,ow1,ow2,lo,hgo⟩:=hG.opened hi
   obtain⟨g,cap,cH,hE⟩:=(HM.out.below hF.below).at hi
   have i1:(i:Int)<2:=by omega
   have ML:=Lib.hid (HM.out.len i)
   have MZ:=Lib.hid (HM.out.lim i)
   have HE:=Lib.hid hE
   have HF:=Lib.hid hF
   have HG:=Lib.hid hgo
   replace ow1:=Lib.hid ow1
   replace ow2:=Lib.hid ow2
   replace lo:=Lib.hid lo
   clear hG hF hgo hE HM
   go_wp2_with fail
   refine(from_one _).mono ?_
   rintro e w1 ⟨a,k,c,rfl,ho, -,hb1⟩
   have HB:=Lib.hid hb1
   have D1:=Lib.hid (show Den1 w1 w1.heap.size _ from⟨a,k,c,(Fr.start w1).alloc (wdV false a k c) 66,ho.below ((Below.refl _ w1).alloc (Nat.le_refl _) _),fun b off e=>Nat.ne_of_lt (ho.lt e)⟩)
   clear hb1 ho cH
   go_wp2_with fail
   go_loopw [8,9,10,23] (fun _ _ _ jv wx=>∃ j:Nat,j≤3∧jv = .int .i64 j∧Den1 w1 w1.heap.size wx) (fun _ _ _ jv _=>3-(intOf jv).toNat)
   case atStart=>exact⟨0,by omega,rfl,D1.out⟩
   case round =>
    obtain⟨wx,hwx⟩:∃ x,x=wr:=⟨_,rfl⟩
    subst hwx
    clear D1
    obtain⟨j,hj3,rfl,hD⟩:=hrel
    by_cases hj:j<3
    ·have j1:(j:Int)<3:=by omega
     obtain⟨f,hf⟩:=HE.out j (by rw[ML.out];exact hj)
     obtain⟨ad,kd,cd,hFD,hone,hne⟩:=hD
     obtain⟨e0,e1,e2,e3, -, -,hd⟩:=hf _ (below_then HB.out hFD.below)
     have ba:=(Below.refl _ wx).alloc (Nat.le_refl _) (.cells (fcE f).toArray 68)
     have FX:=hFD.alloc (fcE f) 68
     obtain⟨x0,x1⟩:=FX.c2 1 rfl
     have y0:=FX.cell 0 2 rfl rfl
     have y1:=FX.cell 0 3 rfl rfl
     have H0:=Lib.hid (hone.below ba)
     have HD:=Lib.hid (show One _ f.a' f.k' f.c' from Lim.below hd ba)
     replace FX:=Lib.hid FX
     clear hf hFD hone hne hd ba HE HF HG
     go_wp2_with fail
     refine(gcd_one H0.out HD.out).mono ?_
     rintro e w3 ⟨a9,k9,c9,rfl,o9, -,hb3⟩
     have ba:=(Below.refl _ w3).alloc (Nat.le_refl _) (.cells (wdV false a9 k9 c9).toArray 66)
     have FF:=Lib.hid ((FX.out.call hb3).alloc (wdV false a9 k9 c9) 66).drew
     replace H0:=Lib.hid (((H0.out.below hb3).below ba).below (Below.refl _ _).drew)
     replace HD:=Lib.hid (((HD.out.below hb3).below ba).below (Below.refl _ _).drew)
     have H9:=Lib.hid ((o9.below ba).below (Below.refl _ _).drew)
     clear o9 hb3 ba FX e0 e1 e2 e3 x0 x1 y0 y1
     go_wp2_with fail
     refine TillSt.start (fun w'=>(w'.cell? ⟨w1.heap.size,0,none⟩=some (.bool false)∧w'.cell? ⟨w1.heap.size,1,none⟩=some (.slice ad kd cd))∧(w'.cell? ⟨wx.heap.size,2,none⟩=some (.bool false)∧w'.cell? ⟨wx.heap.size,3,none⟩=some (.slice f.a' f.k' f.c'))∧(w'.cell? ⟨w3.heap.size,0,none⟩=some (.bool false)∧w'.cell? ⟨w3.heap.size,1,none⟩=some (.slice a9 k9 c9))) 6 (by kernel_rfl) (⟨(FF.out.c2 2 rfl),⟨FF.out.cell 1 2 rfl rfl,FF.out.cell 1 3 rfl rfl⟩,(FF.out.c2 0 rfl)⟩) (fun hHeld=>?_)
     generalize World.drew (World.alloc w3 (.cells #[.bool false, .slice a9 k9 c9] 66))=wd at *
     refine TillSt.tL 0 hHeld (hy:=Or.inl ⟨by rfl,by intro w hSw;obtain⟨⟨q1,q2⟩, -, -⟩:=hSw;go_simp;try with_reducible rfl⟩) (h:=?_)
     refine TillSt.tP 1 (fun _=>hHeld) ?_
     refine TillSt.tL 2 hHeld (hy:=Or.inl ⟨by rfl,by intro w hSw;obtain⟨-,⟨q1,q2⟩, -⟩:=hSw;go_simp;try with_reducible rfl⟩) (h:=?_)
     refine TillSt.tL 3 hHeld (hy:=Or.inl ⟨by rfl,by intro w hSw;obtain⟨-, -,⟨q1,q2⟩⟩:=hSw;go_simp;try with_reducible rfl⟩) (h:=?_)
     refine TillSt.nx [4] ?_
     refine NextSt.cons rfl (fun K' hK=>?_) NextSt.nil
     clear hHeld
     go_simp
     refine(div_one HD.out H9.out).mono ?_
     rintro e w4 ⟨a4,k4,c4,rfl,o4,f4,hb⟩
     replace FF:=Lib.hid (FF.out.call hb)
     replace H0:=Lib.hid (H0.out.below hb)
     have H4:=Lib.hid o4
     clear o4 f4 hb HD H9
     refine hK.out _ _ (⟨(FF.out.c2 2 rfl),⟨FF.out.cell 1 2 rfl rfl,FF.out.cell 1 3 rfl rfl⟩,(FF.out.c2 0 rfl)⟩) (fun hHeld=>?_)
     clear hK
     try simp only[Act.put,Lw.s1,Lw.s2,Lw.s3]
     refine TillSt.nx [5] ?_
     refine NextSt.cons rfl (fun K' hK=>?_) NextSt.nil
     clear hHeld
     go_simp
     refine(mul_ones H0.out H4.out).mono ?_
     rintro e w5 ⟨a5,k5,c5,rfl,o5,f5,hb⟩
     have l5:=(FF.out.least 2 rfl).2
     replace FF:=Lib.hid (FF.out.call hb)
     have H5:=Lib.hid o5
     have N5:=Lib.hid (fun b off e=>(show b≠w1.heap.size by have:=f5 b off e;omega))
     clear o5 f5 hb l5 H0 H4
     refine hK.out _ _ (⟨(FF.out.c2 2 rfl),⟨FF.out.cell 1 2 rfl rfl,FF.out.cell 1 3 rfl rfl⟩,(FF.out.c2 0 rfl)⟩) (fun hHeld=>?_)
     clear hK
     try simp only[Act.put,Lw.s1,Lw.s2,Lw.s3]
     refine TillSt.nx [6] ?_
     refine NextSt.last rfl (by kernel_rfl) (fun K' hK=>?_) NextSt.nil
     obtain⟨s0,s1⟩:=FF.out.c2 2 rfl
     obtain⟨s2,s3⟩:=FF.out.f2 2 rfl
     clear hHeld
     go_simp
     clear s0 s1 s2 s3
     refine hK.out _ _ ?_
     clear hK
     try simp only[Act.put,Lw.s1,Lw.s2,Lw.s3]
     refine TillSt.done (by kernel_rfl) ?_ _
     have PP:Fr w1 [_,_,(w1.heap.size,wdV false a5 k5 c5)] _:=FF.out.put 2 rfl (wdV false a5 k5 c5) rfl
     have st:=Lib.hid (show Den1 w1 w1.heap.size _ from⟨a5,k5,c5,PP.tail.tail,Lim.setCells H5.out N5.out 0 _,N5.out⟩)
     clear PP FF H5 N5
     go_wp2_with fail
     go_roundw
     case rel=>exact⟨j+1,by omega,by simp,st.out⟩
     case measure=>simp[intOf];omega
    ·obtain rfl:j=3:=by omega
     rw[show ((3:Nat):Int)=3 from rfl]
     have mw:=make_w3
     have ba:=(Below.refl _ wx).alloc (Nat.le_refl _) (.cells #[.bool false, .slice none 0 0, .bool false, .slice none 0 0, .bool false, .slice none 0 0] 66)
     obtain⟨ad,kd,cd,hFD,hone, -⟩:=hD
     have D2:=Lib.hid (hFD.call ba)
     have D3:=Lib.hid (hone.below ba)
     have ND:=Lib.hid (fun b off e=>(show b≠wx.heap.size from Nat.ne_of_lt (hone.lt (off:=off) e)))
     have R2:=Lib.hid (row_new wx)
     rw[← fill0 ML.out] at R2
     have BR:=Lib.hid (show w1.heap.size<wx.heap.size from(hFD.least 0 rfl).2)
     clear ba hFD hone
     go_wp2_with fail
     clear mw
     go_loopw [12,13,46] (fun _ _ jv wy=>∃ j:Nat,j≤3∧jv = .int .i64 j∧Fr w1 [(w1.heap.size,wdV false ad kd cd)] wy∧One wy ad kd cd∧RowW wy wx.heap.size (fillZ (M i) j)) (fun _ _ jv _=>3-(intOf jv).toNat)
     case atStart=>exact⟨0,by omega,rfl,D2.out,D3.out,R2.out⟩
     case round =>
      obtain⟨wy,hwy⟩:∃ x,x=wr:=⟨_,rfl⟩
      subst hwy
      clear D2 D3 R2
      obtain⟨j,hj3,rfl,hFD,hone,hR⟩:=hrel
      by_cases hj:j<3
      ·have j1:(j:Int)<3:=by omega
       have hjl:j<(M i).length:=by rw[ML.out];exact hj
       obtain⟨f,hf⟩:=HE.out j hjl
       obtain⟨e0,e1,e2,e3,hs,hn,hd⟩:=hf _ (below_then HB.out hFD.below)
       have FS:=Lib.hid (fillZ_set (M i) j hjl)
       have FZ:=Lib.hid (fillZ_len (M i) j (Nat.le_of_lt hjl))
       rw[ML.out] at FZ
       have ZL:=Lib.hid (Nat.le_trans (MZ.out _ (List.getElem_mem hjl)) (show 900≤1000 by decide))
       clear hf
       generalize (M i)[j]=z at *
       rw[hs] at e0
       have ba:=(Below.refl _ wy).alloc (Nat.le_refl _) (.cells (frV (decide (z<0)) f.a f.k f.c false f.a' f.k' f.c').toArray 68)
       have BY:=Lib.hid hR.lt
       have FF:=Lib.hid (hFD.alloc (frV (decide (z<0)) f.a f.k f.c false f.a' f.k' f.c') 68).drew
       have H0:=Lib.hid ((hone.below ba).below (Below.refl _ _).drew)
       have HD:=Lib.hid ((show One _ f.a' f.k' f.c' from Lim.below hd ba).below (Below.refl _ _).drew)
       have HN:=Lib.hid ((hn.below ba).below (Below.refl _ _).drew)
       have HR:=Lib.hid ((hR.below ba).below (Below.refl _ _).drew)
       clear hFD hone hd hn hs ba HE HF HG MZ hR
       go_wp2_with fail
       clear e0 e1 e2 e3
       refine TillSt.start (fun w'=>(w'.cell? ⟨w1.heap.size,0,none⟩=some (.bool false)∧w'.cell? ⟨w1.heap.size,1,none⟩=some (.slice ad kd cd))∧(w'.cell? ⟨wy.heap.size,0,none⟩=some (.bool (decide (z<0)))∧w'.cell? ⟨wy.heap.size,1,none⟩=some (.slice f.a f.k f.c))∧(w'.cell? ⟨wy.heap.size,2,none⟩=some (.bool false)∧w'.cell? ⟨wy.heap.size,3,none⟩=some (.slice f.a' f.k' f.c'))) 10 (by kernel_rfl) (⟨(FF.out.c2 1 rfl),(FF.out.c2 0 rfl),⟨FF.out.cell 0 2 rfl rfl,FF.out.cell 0 3 rfl rfl⟩⟩) (fun hHeld=>?_)
       generalize World.drew (World.alloc wy (.cells #[.bool (decide (z<0)), .slice f.a f.k f.c, .bool false, .slice f.a' f.k' f.c'] 68))=wd at *
       refine TillSt.tP 0 (fun _=>hHeld) ?_
       refine TillSt.tP 1 (fun _=>hHeld) ?_
       refine TillSt.tP 2 (fun _=>hHeld) ?_
       refine TillSt.tL 3 hHeld (hy:=Or.inl ⟨by rfl,by intro w hSw;obtain⟨-,⟨q1,q2⟩, -⟩:=hSw;go_simp;try with_reducible rfl⟩) (h:=?_)
       refine TillSt.tL 4 hHeld (hy:=Or.inl ⟨by rfl,by intro w hSw;obtain⟨⟨q1,q2⟩, -, -⟩:=hSw;go_simp;try with_reducible rfl⟩) (h:=?_)
       refine TillSt.tP 5 (fun _=>hHeld) ?_
       refine TillSt.tL 6 hHeld (hy:=Or.inl ⟨by rfl,by intro w hSw;obtain⟨-, -,⟨q1,q2⟩⟩:=hSw;go_simp;try with_reducible rfl⟩) (h:=?_)
       refine TillSt.nx [7] ?_
       refine NextSt.cons rfl (fun K' hK=>?_) NextSt.nil
       clear hHeld
       go_simp
       refine(div_one H0.out HD.out).mono ?_
       rintro e w4 ⟨a4,k4,c4,rfl,o4,f4,hb⟩
       replace FF:=Lib.hid (FF.out.call hb)
       replace H0:=Lib.hid (H0.out.below hb)
       replace HN:=Lib.hid (HN.out.below hb)
       replace HR:=Lib.hid (HR.out.below hb)
       have H4:=Lib.hid o4
       clear o4 f4 hb HD
       refine hK.out _ _ (⟨(FF.out.c2 1 rfl),(FF.out.c2 0 rfl),⟨FF.out.cell 0 2 rfl rfl,FF.out.cell 0 3 rfl rfl⟩⟩) (fun hHeld=>?_)
       clear hK
       try simp only[Act.put,Lw.s1,Lw.s2,Lw.s3]
       refine TillSt.nx [8] ?_
       refine NextSt.cons rfl (fun K' hK=>?_) NextSt.nil
       clear hHeld
       go_simp
       refine(mul_one_ HN.out H4.out ZL.out).mono ?_
       rintro e w5 ⟨a5,k5,c5,rfl,o5,f5,hb⟩
       have l5:=HR.out.lt
       replace FF:=Lib.hid (FF.out.call hb)
       replace H0:=Lib.hid (H0.out.below hb)
       replace HR:=Lib.hid (HR.out.below hb)
       have H5:=Lib.hid (show WcR w5 (wx.heap.size+1) ⟨decide (z<0),a5,k5,c5⟩ z from⟨rfl,o5,fun b off e=>by have:=f5 b off e;omega⟩)
       clear o5 f5 hb l5 HN H4
       refine hK.out _ _ (⟨(FF.out.c2 1 rfl),(FF.out.c2 0 rfl),⟨FF.out.cell 0 2 rfl rfl,FF.out.cell 0 3 rfl rfl⟩⟩) (fun hHeld=>?_)
       clear hK
       try simp only[Act.put,Lw.s1,Lw.s2,Lw.s3]
       refine TillSt.tP 9 (fun _=>hHeld) ?_
       refine TillSt.nx [10] ?_
       refine NextSt.last rfl (by kernel_rfl) (fun K' hK=>?_) NextSt.nil
       obtain⟨x,s0,s1,s2,s3, -⟩:=HR.out.cell (i:=j) (by rw[FZ.out];exact hj)
       clear hHeld
       go_simp
       clear s0 s1 s2 s3
       refine hK.out _ _ ?_
       clear hK
       try simp only[Act.put,Lw.s1,Lw.s2,Lw.s3]
       refine TillSt.done (by kernel_rfl) ?_ _
       have RS:=HR.out.set (i:=j) (by rw[FZ.out];exact hj) _ z H5.out
       rw[FS.out] at RS
       have RS':=Lib.hid RS
       have PP:Fr w1 [_,(w1.heap.size,wdV false ad kd cd)] _:=Fr.away FF.out (c:=wx.heap.size) (Nat.le_of_lt BR.out) (fun p hp=>by
        simp only[List.mem_cons,List.not_mem_nil,or_false] at hp
        have:=BY.out
        have:=BR.out
        rcases hp with rfl|rfl <;> simp only <;> omega) (j*2) (wcE ⟨decide (z<0),a5,k5,c5⟩)
       have st:=Lib.hid (show Fr w1 [(w1.heap.size,wdV false ad kd cd)] _∧One _ ad kd cd from⟨PP.tail,Lim.setCells H0.out (fun b off e=>ND.out b off e) (j*2) (wcE ⟨decide (z<0),a5,k5,c5⟩)⟩)
       clear PP FF H5 H0 RS HR
       go_wp2_with fail
       go_roundw
       case rel=>exact⟨j+1,by omega,by simp,st.out.1,st.out.2,RS'.out⟩
       case measure=>simp[intOf];omega
      ·obtain rfl:j=3:=by omega
       rw[fill3 ML.out] at hR
       have bel:=below_then HB.out hFD.below.drew
       obtain⟨B,hB1,hB2,o1,o2,fin⟩:=HG.out _ wx.heap.size bel (hR.below (Below.refl _ _).drew) (Nat.le_trans HB.out.size (Nat.le_of_lt BR.out))
       obtain⟨A1,p1,rfl, -, -⟩:=OwnG.form (k:=1) (enc:=slE) (fun _=>rfl) o1
       obtain⟨A2,p2,rfl, -, -⟩:=OwnG.form (k:=2) (enc:=wcE) (fun _=>rfl) o2
       have T:=Lib.hid (show T18 w B w1.heap.size wx.heap.size (.slice A1 H.length p1) (.slice A2 L.length p2) ad kd cd (M i) wy.drew wy.drew from⟨HF.out.call bel,hR.below (Below.refl _ _).drew,hFD.drew.get 0 rfl,Below.refl _ _⟩)
       have hs1:=HB.out.size
       have OW1:=Lib.hid (fun g (q:(Value.slice A1 H.length p1).ownBlock=some g)=>(show g<w1.heap.size∧g<wx.heap.size by have:=ow1.out g q;have:=BR.out;omega))
       have OW2:=Lib.hid (fun g (q:(Value.slice A2 L.length p2).ownBlock=some g)=>(show g<w1.heap.size∧g<wx.heap.size by have:=ow2.out g q;have:=BR.out;omega))
       have RLT:=Lib.hid (show wx.heap.size<wy.drew.heap.size from(hR.below (Below.refl _ _).drew).lt)
       have HBD:=Lib.hid (show w1.heap.size<wy.drew.heap.size from Nat.lt_trans BR.out RLT.out)
       have OL1:=Lib.hid (fun g (q:(Value.slice A1 H.length p1).ownBlock=some g)=>(show g<wy.drew.heap.size from Nat.lt_trans (OW1.out g q).2 RLT.out))
       have OL2:=Lib.hid (fun g (q:(Value.slice A2 L.length p2).ownBlock=some g)=>(show g<wy.drew.heap.size from Nat.lt_trans (OW2.out g q).2 RLT.out))
       have HB1:=Lib.hid hB1
       have HB2:=Lib.hid hB2
       have FIN:=Lib.hid fin
       have O1:=Lib.hid o1
       have O2:=Lib.hid o2
       have NE1:=Lib.hid (show (66:TypeId)≠222 from fun e=>ne_w e.symm)
       have NE2:=Lib.hid ne_w
       clear hR hFD hone bel hB1 hB2 o1 o2 fin hs1 ow1 ow2 HE HF HG MZ HB lo
       go_wp2_with fail
       refine TillSt.start (fun w'=>(w'.cell? ⟨w.heap.size+1,0,none⟩=some (.slice A1 H.length p1)∧w'.cell? ⟨w.heap.size+1,1,none⟩=some (.slice A2 L.length p2))∧(w'.cell? ⟨w1.heap.size,0,none⟩=some (.bool false)∧w'.cell? ⟨w1.heap.size,1,none⟩=some (.slice ad kd cd))) 11 (by kernel_rfl) (⟨(T.out.fr.c2 0 rfl),⟨T.out.den 0 _ rfl,T.out.den 1 _ rfl⟩⟩) (fun hHeld=>?_)
       generalize World.drew wy=wd at *
       refine TillSt.tP 0 (fun _=>hHeld) ?_
       refine TillSt.tL 1 hHeld (hy:=Or.inl ⟨by rfl,by intro w hSw;obtain⟨⟨q1,q2⟩, -⟩:=hSw;go_simp;try with_reducible rfl⟩) (h:=?_)
       refine TillSt.tP 2 (fun _=>hHeld) ?_
       refine TillSt.tP 5 (fun _=>hHeld) ?_
       refine TillSt.tL 6 hHeld (hy:=Or.inl ⟨by rfl,by intro w hSw;obtain⟨⟨q1,q2⟩, -⟩:=hSw;go_simp;try with_reducible rfl⟩) (h:=?_)
       refine TillSt.takeW (i:=7) (oi:=?oi7x18) (v:=?v7x18) [8,9,11] ?hi7x18 (by kernel_rfl) (by kernel_rfl) (by kernel_rfl) (by kernel_rfl) (by kernel_rfl) (by kernel_rfl) ?hq7x18 ?hy7x18 hHeld (by kernel_rfl) ?rest7x18
       case hi7x18=>((try simp only[List.getElem?_toArray,List.getElem?_cons_succ,List.getElem?_cons_zero]);(try rfl))
       case hq7x18=>exact fun _ _ _ h=>h
       case hy7x18=>exact Or.inl ⟨by rfl,by intro w hSw;obtain⟨-,⟨q1,q2⟩⟩:=hSw;go_simp;try with_reducible rfl⟩
       try simp only[Act.put,Lw.s1,Lw.s2,Lw.s3]
       refine TillSt.nx [3,8] ?_
       refine NextSt.cons rfl (fun K' hK=>?_) (NextSt.cons rfl (fun K' hK=>?_) NextSt.nil)
       ·
        clear hHeld
        go_simp
        have ba:=(Below.refl _ wd).alloc (Nat.le_refl _) (.cells ((slE (hdr wx.heap.size))).toArray 222)
        obtain⟨b1,hb1,u1⟩:∃ b,wd.heap.size=b∧Bu wd.heap.size b (slE (hdr wx.heap.size)) (wd.alloc (.cells ((slE (hdr wx.heap.size))).toArray 222)):=⟨_,rfl,Bu.mk' wd wd.heap.size T.out.bel.size (slE (hdr wx.heap.size)) 222⟩
        rw[hb1]
        have U1:=Lib.hid u1
        replace T:=Lib.hid (T.out.alloc HB2.out HBD.out (.cells ((slE (hdr wx.heap.size))).toArray 222))
        replace O1:=Lib.hid (OwnG.below O1.out ba)
        replace O2:=Lib.hid (OwnG.below O2.out ba)
        clear ba u1 hb1
        generalize World.alloc wd (.cells #[.slice (some ⟨wx.heap.size,0,none⟩) 3 3] 222)=v1 at *
        refine hK.out _ _ (⟨(T.out.fr.c2 0 rfl),⟨T.out.den 0 _ rfl,T.out.den 1 _ rfl⟩⟩) (fun hHeld=>?_)
        clear hK
        try simp only[Act.put,Lw.s1,Lw.s2,Lw.s3]
        refine TillSt.nx [4,8] ?_
        refine NextSt.cons rfl (fun K' hK=>?_) (NextSt.cons rfl (fun K' hK=>?_) NextSt.nil)
        ·
         clear hHeld
         have BQ:=Lib.hid T.out.bel.size
         refine step_appB Tryz.underlying221 info_sw rfl (by decide) (by decide) (fun _=>rfl) slE_one v1 rfl (.tmp 63) (.tmp 65) (by rfl) B (.slice A1 H.length p1) H (hdr wx.heap.size) b1 (by rfl) (by rfl) O1.out U1.out.row (by omega) ?_
         intro u1 v2 g1 g2 g3 g4
         replace T:=Lib.hid (T.out.grown HB1.out HBD.out OW1.out g2 g4)
         replace O2:=Lib.hid (OwnG.kept3 O2.out O1.out NE1.out g2)
         have N1:=Lib.hid (show u1.ownBlock≠some wx.heap.size from fun e=>by
          rcases g3 with q|q
          ·have:=(OW1.out _ (q.symm.trans e)).2
           omega
          ·rw[q] at e
           have e9:=Option.some.inj e
           have:=RLT.out
           have:=BQ.out
           omega)
         replace O1:=Lib.hid g1
         clear g1 g2 g3 g4 U1 BQ
         obtain⟨Au1,nu1,cu1,rfl⟩:∃ A n c,u1=Value.slice A n c:=by obtain⟨A,c,e, -⟩:=OwnG.form (k:=1) (enc:=slE) (fun _=>rfl) O1.out;exact⟨A,_,c,e⟩
         refine hK.out _ _ (⟨(T.out.fr.c2 0 rfl),⟨T.out.den 0 _ rfl,T.out.den 1 _ rfl⟩⟩) (fun hHeld=>?_)
         clear hK
         try simp only[Act.put,Lw.s1,Lw.s2,Lw.s3]
         refine TillSt.tP 10 (fun _=>hHeld) ?_
         refine TillSt.nx [8] ?_
         refine NextSt.cons rfl (fun K' hK=>?_) NextSt.nil
         clear hHeld
         go_simp
         have ba:=(Below.refl _ v2).alloc (Nat.le_refl _) (.cells ((wcE ⟨false,ad,kd,cd⟩)).toArray 66)
         obtain⟨b2,hb2,u2⟩:∃ b,v2.heap.size=b∧Bu wd.heap.size b (wcE ⟨false,ad,kd,cd⟩) (v2.alloc (.cells ((wcE ⟨false,ad,kd,cd⟩)).toArray 66)):=⟨_,rfl,Bu.mk' v2 wd.heap.size T.out.bel.size (wcE ⟨false,ad,kd,cd⟩) 66⟩
         rw[hb2]
         have U2:=Lib.hid u2
         replace T:=Lib.hid (T.out.alloc HB2.out HBD.out (.cells ((wcE ⟨false,ad,kd,cd⟩)).toArray 66))
         replace O1:=Lib.hid (OwnG.below O1.out ba)
         replace O2:=Lib.hid (OwnG.below O2.out ba)
         clear ba u2 hb2
         generalize World.alloc v2 (.cells #[.bool false, .slice ad kd cd] 66)=v3 at *
         refine hK.out _ _ (⟨(T.out.fr.c2 0 rfl),⟨T.out.den 0 _ rfl,T.out.den 1 _ rfl⟩⟩) (fun hHeld=>?_)
         clear hK
         try simp only[Act.put,Lw.s1,Lw.s2,Lw.s3]
         refine TillSt.nx [9] ?_
         refine NextSt.cons rfl (fun K' hK=>?_) NextSt.nil
         clear hHeld
         have BQ:=Lib.hid T.out.bel.size
         refine step_appB Tryz.underlying222 info_wc rfl (by decide) (by decide) (fun _=>rfl) wcE_one v3 rfl (.tmp 68) (.tmp 70) (by rfl) B (.slice A2 L.length p2) L ⟨false,ad,kd,cd⟩ b2 (by rfl) (by rfl) O2.out U2.out.row (by omega) ?_
         intro u2 v4 g1 g2 g3 g4
         replace T:=Lib.hid (T.out.grown HB1.out HBD.out OW2.out g2 g4)
         replace O1:=Lib.hid (OwnG.kept3 O1.out O2.out NE2.out g2)
         replace O2:=Lib.hid g1
         clear g1 g2 g3 g4 U2 BQ
         obtain⟨Au2,nu2,cu2,rfl⟩:∃ A n c,u2=Value.slice A n c:=by obtain⟨A,c,e, -⟩:=OwnG.form (k:=2) (enc:=wcE) (fun _=>rfl) O2.out;exact⟨A,_,c,e⟩
         refine hK.out _ _ (⟨(T.out.fr.c2 0 rfl),⟨T.out.den 0 _ rfl,T.out.den 1 _ rfl⟩⟩) (fun hHeld=>?_)
         clear hK
         try simp only[Act.put,Lw.s1,Lw.s2,Lw.s3]
         refine TillSt.nx [11] ?_
         refine NextSt.last rfl (by kernel_rfl) (fun K' hK=>?_) NextSt.nil
         have s0:=T.out.fr.cell 0 0 rfl rfl
         have s1:=T.out.fr.fz 0 0 rfl rfl
         clear hHeld
         go_simp
         clear s0 s1
         refine hK.out _ _ ?_
         clear hK
         try simp only[Act.put,Lw.s1,Lw.s2,Lw.s3]
         refine TillSt.tP 12 (fun q=>by cases q) ?_
         refine TillSt.nx [13] ?_
         refine NextSt.last rfl (by kernel_rfl) (fun K' hK=>?_) NextSt.nil
         have F1:=T.out.fr.put1 0 rfl 0 (Value.slice Au1 nu1 cu1) (by simp)
         have s0:=F1.cell 0 1 rfl rfl
         have s1:=F1.fz 0 1 rfl rfl
         clear F1
         go_simp
         clear s0 s1
         refine hK.out _ _ ?_
         clear hK
         try simp only[Act.put,Lw.s1,Lw.s2,Lw.s3]
         refine TillSt.done (by kernel_rfl) ?_ _
         have st:=Lib.hid (FIN.out v4 _ _ _ T.out.bel T.out.row O1.out O2.out N1.out)
         clear T O1 O2 N1 FIN
         go_wp2_with fail
         go_roundw
         case rel=>exact⟨i+1,by omega,by simp,st.out⟩
         case measure=>simp[intOf];omega
        ·
         clear hHeld
         go_simp
         have ba:=(Below.refl _ v1).alloc (Nat.le_refl _) (.cells ((wcE ⟨false,ad,kd,cd⟩)).toArray 66)
         obtain⟨b2,hb2,u2⟩:∃ b,v1.heap.size=b∧Bu wd.heap.size b (wcE ⟨false,ad,kd,cd⟩) (v1.alloc (.cells ((wcE ⟨false,ad,kd,cd⟩)).toArray 66)):=⟨_,rfl,Bu.mk' v1 wd.heap.size T.out.bel.size (wcE ⟨false,ad,kd,cd⟩) 66⟩
         rw[hb2]
         have U2:=Lib.hid u2
         replace T:=Lib.hid (T.out.alloc HB2.out HBD.out (.cells ((wcE ⟨false,ad,kd,cd⟩)).toArray 66))
         replace O1:=Lib.hid (OwnG.below O1.out ba)
         replace O2:=Lib.hid (OwnG.below O2.out ba)
         replace U1:=Lib.hid (U1.out.alloc (.cells ((wcE ⟨false,ad,kd,cd⟩)).toArray 66))
         clear ba u2 hb2
         generalize World.alloc v1 (.cells #[.bool false, .slice ad kd cd] 66)=v5 at *
         refine hK.out _ _ (⟨(T.out.fr.c2 0 rfl),⟨T.out.den 0 _ rfl,T.out.den 1 _ rfl⟩⟩) (fun hHeld=>?_)
         clear hK
         try simp only[Act.put,Lw.s1,Lw.s2,Lw.s3]
         refine TillSt.nx [4] ?_
         refine NextSt.cons rfl (fun K' hK=>?_) NextSt.nil
         clear hHeld
         have BQ:=Lib.hid T.out.bel.size
         refine step_appB Tryz.underlying221 info_sw rfl (by decide) (by decide) (fun _=>rfl) slE_one v5 rfl (.tmp 63) (.tmp 65) (by rfl) B (.slice A1 H.length p1) H (hdr wx.heap.size) b1 (by rfl) (by rfl) O1.out U1.out.row (by omega) ?_
         intro u1 v6 g1 g2 g3 g4
         replace T:=Lib.hid (T.out.grown HB1.out HBD.out OW1.out g2 g4)
         replace O2:=Lib.hid (OwnG.kept3 O2.out O1.out NE1.out g2)
         replace U2:=Lib.hid (U2.out.grown OL1.out g2)
         have N1:=Lib.hid (show u1.ownBlock≠some wx.heap.size from fun e=>by
          rcases g3 with q|q
          ·have:=(OW1.out _ (q.symm.trans e)).2
           omega
          ·rw[q] at e
           have e9:=Option.some.inj e
           have:=RLT.out
           have:=BQ.out
           omega)
         replace O1:=Lib.hid g1
         clear g1 g2 g3 g4 U1 BQ
         obtain⟨Au1,nu1,cu1,rfl⟩:∃ A n c,u1=Value.slice A n c:=by obtain⟨A,c,e, -⟩:=OwnG.form (k:=1) (enc:=slE) (fun _=>rfl) O1.out;exact⟨A,_,c,e⟩
         refine hK.out _ _ (⟨(T.out.fr.c2 0 rfl),⟨T.out.den 0 _ rfl,T.out.den 1 _ rfl⟩⟩) (fun hHeld=>?_)
         clear hK
         try simp only[Act.put,Lw.s1,Lw.s2,Lw.s3]
         refine TillSt.tP 10 (fun _=>hHeld) ?_
         refine TillSt.nx [9] ?_
         refine NextSt.cons rfl (fun K' hK=>?_) NextSt.nil
         clear hHeld
         have BQ:=Lib.hid T.out.bel.size
         refine step_appB Tryz.underlying222 info_wc rfl (by decide) (by decide) (fun _=>rfl) wcE_one v6 rfl (.tmp 68) (.tmp 70) (by rfl) B (.slice A2 L.length p2) L ⟨false,ad,kd,cd⟩ b2 (by rfl) (by rfl) O2.out U2.out.row (by omega) ?_
         intro u2 v7 g1 g2 g3 g4
         replace T:=Lib.hid (T.out.grown HB1.out HBD.out OW2.out g2 g4)
         replace O1:=Lib.hid (OwnG.kept3 O1.out O2.out NE2.out g2)
         replace O2:=Lib.hid g1
         clear g1 g2 g3 g4 U2 BQ
         obtain⟨Au2,nu2,cu2,rfl⟩:∃ A n c,u2=Value.slice A n c:=by obtain⟨A,c,e, -⟩:=OwnG.form (k:=2) (enc:=wcE) (fun _=>rfl) O2.out;exact⟨A,_,c,e⟩
         refine hK.out _ _ (⟨(T.out.fr.c2 0 rfl),⟨T.out.den 0 _ rfl,T.out.den 1 _ rfl⟩⟩) (fun hHeld=>?_)
         clear hK
         try simp only[Act.put,Lw.s1,Lw.s2,Lw.s3]
         refine TillSt.nx [11] ?_
         refine NextSt.last rfl (by kernel_rfl) (fun K' hK=>?_) NextSt.nil
         have s0:=T.out.fr.cell 0 0 rfl rfl
         have s1:=T.out.fr.fz 0 0 rfl rfl
         clear hHeld
         go_simp
         clear s0 s1
         refine hK.out _ _ ?_
         clear hK
         try simp only[Act.put,Lw.s1,Lw.s2,Lw.s3]
         refine TillSt.tP 12 (fun q=>by cases q) ?_
         refine TillSt.nx [13] ?_
         refine NextSt.last rfl (by kernel_rfl) (fun K' hK=>?_) NextSt.nil
         have F1:=T.out.fr.put1 0 rfl 0 (Value.slice Au1 nu1 cu1) (by simp)
         have s0:=F1.cell 0 1 rfl rfl
         have s1:=F1.fz 0 1 rfl rfl
         clear F1
         go_simp
         clear s0 s1
         refine hK.out _ _ ?_
         clear hK
         try simp only[Act.put,Lw.s1,Lw.s2,Lw.s3]
         refine TillSt.done (by kernel_rfl) ?_ _
         have st:=Lib.hid (FIN.out v7 _ _ _ T.out.bel T.out.row O1.out O2.out N1.out)
         clear T O1 O2 N1 FIN
         go_wp2_with fail
         go_roundw
         case rel=>exact⟨i+1,by omega,by simp,st.out⟩
         case measure=>simp[intOf];omega
       ·
        clear hHeld
        go_simp
        have ba:=(Below.refl _ wd).alloc (Nat.le_refl _) (.cells ((wcE ⟨false,ad,kd,cd⟩)).toArray 66)
        obtain⟨b2,hb2,u2⟩:∃ b,wd.heap.size=b∧Bu wd.heap.size b (wcE ⟨false,ad,kd,cd⟩) (wd.alloc (.cells ((wcE ⟨false,ad,kd,cd⟩)).toArray 66)):=⟨_,rfl,Bu.mk' wd wd.heap.size T.out.bel.size (wcE ⟨false,ad,kd,cd⟩) 66⟩
        rw[hb2]
        have U2:=Lib.hid u2
        replace T:=Lib.hid (T.out.alloc HB2.out HBD.out (.cells ((wcE ⟨false,ad,kd,cd⟩)).toArray 66))
        replace O1:=Lib.hid (OwnG.below O1.out ba)
        replace O2:=Lib.hid (OwnG.below O2.out ba)
        clear ba u2 hb2
        generalize World.alloc wd (.cells #[.bool false, .slice ad kd cd] 66)=v8 at *
        refine hK.out _ _ (⟨(T.out.fr.c2 0 rfl),⟨T.out.den 0 _ rfl,T.out.den 1 _ rfl⟩⟩) (fun hHeld=>?_)
        clear hK
        try simp only[Act.put,Lw.s1,Lw.s2,Lw.s3]
        refine TillSt.nx [3] ?_
        refine NextSt.cons rfl (fun K' hK=>?_) NextSt.nil
        clear hHeld
        go_simp
        have ba:=(Below.refl _ v8).alloc (Nat.le_refl _) (.cells ((slE (hdr wx.heap.size))).toArray 222)
        obtain⟨b1,hb1,u1⟩:∃ b,v8.heap.size=b∧Bu wd.heap.size b (slE (hdr wx.heap.size)) (v8.alloc (.cells ((slE (hdr wx.heap.size))).toArray 222)):=⟨_,rfl,Bu.mk' v8 wd.heap.size T.out.bel.size (slE (hdr wx.heap.size)) 222⟩
        rw[hb1]
        have U1:=Lib.hid u1
        replace T:=Lib.hid (T.out.alloc HB2.out HBD.out (.cells ((slE (hdr wx.heap.size))).toArray 222))
        replace O1:=Lib.hid (OwnG.below O1.out ba)
        replace O2:=Lib.hid (OwnG.below O2.out ba)
        replace U2:=Lib.hid (U2.out.alloc (.cells ((slE (hdr wx.heap.size))).toArray 222))
        clear ba u1 hb1
        generalize World.alloc v8 (.cells #[.slice (some ⟨wx.heap.size,0,none⟩) 3 3] 222)=v9 at *
        refine hK.out _ _ (⟨(T.out.fr.c2 0 rfl),⟨T.out.den 0 _ rfl,T.out.den 1 _ rfl⟩⟩) (fun hHeld=>?_)
        clear hK
        try simp only[Act.put,Lw.s1,Lw.s2,Lw.s3]
        refine TillSt.nx [4] ?_
        refine NextSt.cons rfl (fun K' hK=>?_) NextSt.nil
        clear hHeld
        have BQ:=Lib.hid T.out.bel.size
        refine step_appB Tryz.underlying221 info_sw rfl (by decide) (by decide) (fun _=>rfl) slE_one v9 rfl (.tmp 63) (.tmp 65) (by rfl) B (.slice A1 H.length p1) H (hdr wx.heap.size) b1 (by rfl) (by rfl) O1.out U1.out.row (by omega) ?_
        intro u1 v10 g1 g2 g3 g4
        replace T:=Lib.hid (T.out.grown HB1.out HBD.out OW1.out g2 g4)
        replace O2:=Lib.hid (OwnG.kept3 O2.out O1.out NE1.out g2)
        replace U2:=Lib.hid (U2.out.grown OL1.out g2)
        have N1:=Lib.hid (show u1.ownBlock≠some wx.heap.size from fun e=>by
         rcases g3 with q|q
         ·have:=(OW1.out _ (q.symm.trans e)).2
          omega
         ·rw[q] at e
          have e9:=Option.some.inj e
          have:=RLT.out
          have:=BQ.out
          omega)
        replace O1:=Lib.hid g1
        clear g1 g2 g3 g4 U1 BQ
        obtain⟨Au1,nu1,cu1,rfl⟩:∃ A n c,u1=Value.slice A n c:=by obtain⟨A,c,e, -⟩:=OwnG.form (k:=1) (enc:=slE) (fun _=>rfl) O1.out;exact⟨A,_,c,e⟩
        refine hK.out _ _ (⟨(T.out.fr.c2 0 rfl),⟨T.out.den 0 _ rfl,T.out.den 1 _ rfl⟩⟩) (fun hHeld=>?_)
        clear hK
        try simp only[Act.put,Lw.s1,Lw.s2,Lw.s3]
        refine TillSt.tP 10 (fun _=>hHeld) ?_
        refine TillSt.nx [9] ?_
        refine NextSt.cons rfl (fun K' hK=>?_) NextSt.nil
        clear hHeld
        have BQ:=Lib.hid T.out.bel.size
        refine step_appB Tryz.underlying222 info_wc rfl (by decide) (by decide) (fun _=>rfl) wcE_one v10 rfl (.tmp 68) (.tmp 70) (by rfl) B (.slice A2 L.length p2) L ⟨false,ad,kd,cd⟩ b2 (by rfl) (by rfl) O2.out U2.out.row (by omega) ?_
        intro u2 v11 g1 g2 g3 g4
        replace T:=Lib.hid (T.out.grown HB1.out HBD.out OW2.out g2 g4)
        replace O1:=Lib.hid (OwnG.kept3 O1.out O2.out NE2.out g2)
        replace O2:=Lib.hid g1
        clear g1 g2 g3 g4 U2 BQ
        obtain⟨Au2,nu2,cu2,rfl⟩:∃ A n c,u2=Value.slice A n c:=by obtain⟨A,c,e, -⟩:=OwnG.form (k:=2) (enc:=wcE) (fun _=>rfl) O2.out;exact⟨A,_,c,e⟩
        refine hK.out _ _ (⟨(T.out.fr.c2 0 rfl),⟨T.out.den 0 _ rfl,T.out.den 1 _ rfl⟩⟩) (fun hHeld=>?_)
        clear hK
        try simp only[Act.put,Lw.s1,Lw.s2,Lw.s3]
        refine TillSt.nx [11] ?_
        refine NextSt.last rfl (by kernel_rfl) (fun K' hK=>?_) NextSt.nil
        have s0:=T.out.fr.cell 0 0 rfl rfl
        have s1:=T.out.fr.fz 0 0 rfl rfl
        clear hHeld
        go_simp
        clear s0 s1
        refine hK.out _ _ ?_
        clear hK
        try simp only[Act.put,Lw.s1,Lw.s2,Lw.s3]
        refine TillSt.tP 12 (fun q=>by cases q) ?_
        refine TillSt.nx [13] ?_
        refine NextSt.last rfl (by kernel_rfl) (fun K' hK=>?_) NextSt.nil
        have F1:=T.out.fr.put1 0 rfl 0 (Value.slice Au1 nu1 cu1) (by simp)
        have s0:=F1.cell 0 1 rfl rfl
        have s1:=F1.fz 0 1 rfl rfl
        clear F1
        go_simp
        clear s0 s1
        refine hK.out _ _ ?_
        clear hK
        try simp only[Act.put,Lw.s1,Lw.s2,Lw.s3]
        refine TillSt.done (by kernel_rfl) ?_ _
        have st:=Lib.hid (FIN.out v11 _ _ _ T.out.bel T.out.row O1.out O2.out N1.out)
        clear T O1 O2 N1 FIN
        go_wp2_with fail
        go_roundw
        case rel=>exact⟨i+1,by omega,by simp,st.out⟩
        case measure=>simp[intOf];omega
  ·obtain rfl:i=2:=by omega
   obtain⟨g,c,A2,n2,c2,hF,hP⟩:=hG.post
   have HP:=Lib.hid hP
   have G:=Lib.hid ((hF.put 1 rfl [.slice (some ⟨g,0,none⟩) 2 c, .slice A2 n2 c2] rfl).get 1 rfl)
   obtain⟨u0,u1⟩:=hF.c2 0 rfl
   obtain⟨v0,v1⟩:=hF.c2 1 rfl
   obtain⟨f0,f1⟩:=hF.f2 1 rfl
   clear hG hF hP HM
   go_wp2_with fail
   exact bodyPost_ret (ret_cell Tryz.results177 _ _ w.heap.size _ _ rfl G.out Tryz.underlying224 rfl info_gr) rfl HP.out
end Wd
end Go.Proofs.YtdnogmanbdgadaaGreatDoor
