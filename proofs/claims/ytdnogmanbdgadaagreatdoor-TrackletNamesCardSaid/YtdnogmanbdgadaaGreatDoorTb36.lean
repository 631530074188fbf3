/-
  Lemmas and walks, texts joined: QBack.
-/
import Derived.Sort.CutIn
import Derived.Test.YtdnogmanbdgadaaGreatDoorTb35
set_option linter.unusedSimpArgs false
set_option linter.unusedVariables false
set_option maxRecDepth 100000
set_option maxHeartbeats 40000000
namespace Go.Proofs.YtdnogmanbdgadaaGreatDoor
namespace Wd
open Go.RowKit Lw Tw Go.Shelf
attribute [local go_sem] Oper.semAt_some

theorem len_rows {n s1 y0 t1 s2 y1:Int} (h:∀ z ∈ [n,s1,y0,t1,s2,y1],(canon z.natAbs).length≤20):∀ z ∈ [n,s1,y0,s2*n-t1*s1,y1*n-t1*y0],(canon z.natAbs).length≤50:=by
 have sub:∀ a b c d:Int,(canon a.natAbs).length≤20→(canon b.natAbs).length≤20→(canon c.natAbs).length≤20→(canon d.natAbs).length≤20→(canon (a*b-c*d).natAbs).length≤50:=fun a b c d ha hb hc hd=>by
  have h1:=len_mulZ a b
  have h2:=len_mulZ c d
  have:=len_addZ (X:=a*b) (Y:=-(c*d)) (L:=40) (by omega) (by rw[Int.natAbs_neg];omega)
  rw[← Int.sub_eq_add_neg] at this
  omega
 have h1:=h n (by simp)
 have h2:=h s1 (by simp)
 have h3:=h y0 (by simp)
 have h4:=h t1 (by simp)
 have h5:=h s2 (by simp)
 have h6:=h y1 (by simp)
 intro z hz
 simp only[List.mem_cons,List.not_mem_nil,or_false] at hz
 rcases hz with rfl|rfl|rfl|rfl|rfl
 ·omega
 ·omega
 ·omega
 ·exact sub _ _ _ _ h5 h1 h4 h2
 ·exact sub _ _ _ _ h6 h1 h4 h3
theorem back_any (g0 c0:Nat) (X Y:Value) (M:Nat→List Int) (n s1 y0 t1 s2 y1:Int) (w:World) (h:Mat w g0 X Y M) (h0:M 0 = [n,s1,y0]) (h1:M 1 = [t1,s2,y1]) (hn:0<n) (hD:0<s2*n-t1*s1)
  (hl:∀ z ∈ [n,s1,y0,t1,s2,y1],(canon z.natAbs).length≤20) (x0 x1:Rat) (e1:x1=((y1*n-t1*y0:Int):Rat)/((s2*n-t1*s1:Int):Rat)) (e0:x0=((y0:Rat)-(s1:Rat)*x1)/(n:Rat)) :
  Calls Tryz.prog 123 #[.slice (some ⟨g0,0,none⟩) 2 c0, .int .i64 2] w (BackPost x0 x1 w):=by
 have F0:=Lib.hid ((Fr.start w).alloc [.int .i64 2] 3)
 have WH:=Lib.hid (fun w' (hb:Below w.heap.size w w')=>lwhole_any g0 c0 X Y M w' (h.below hb))
 have HL:=Lib.hid hl
 have HN:=Lib.hid hn
 have HD:=Lib.hid hD
 have H0:=Lib.hid h0
 have H1:=Lib.hid h1
 have E0:=Lib.hid e0
 have E1:=Lib.hid e1
 clear h h0 h1 hn hD hl e0 e1
 refine(callsIn_wide (n:=3)).1 ?_
 refine callsIn_of_wp_marks Tryz.func123 rfl trivial ?_ rfl
 simp only[Tryz.ntmps123,List.size_toArray,List.length_cons,List.length_nil,Nat.reduceAdd,Nat.reduceSub,Array.replicate_succ,Array.replicate_zero,List.push_toArray,List.append_toArray,List.nil_append,List.cons_append]
 refine wpIn_wide.2 ?_
 go_wp2_with fail
 refine(WH.out _ F0.out.below).mono ?_
 rintro e w1 ⟨g,c,A2,n2,c2,r0,r1,W0,rfl,hc2,hcm,hWg,hg,hrg,hR0,hr0,hr1,hW0,hk,hR1,hne,hb⟩
 have F1:=(F0.out.call hb).alloc [.slice (some ⟨g,0,none⟩) 2 c, .slice A2 n2 c2] 224
 have ba:=(Below.refl _ w1).alloc (Nat.le_refl _) (.cells #[.slice (some ⟨g,0,none⟩) 2 c, .slice A2 n2 c2] 224)
 rw[H0.out] at hR0
 rw[H1.out] at hR1
 have EL:=Lib.hid (eliminate_any g c A2 n2 c2 r0 r1 n s1 y0 t1 s2 y1 W0 _ (rangeAt_below hrg ba hg) (Nat.lt_of_lt_of_le hg ba.size) hne hR0 hr1 (fun b q1 q2=>(ba.block b (by omega)).trans (hk b q1 q2)) (hR1.below ba) HN.out HD.out (fun z hz=>Nat.le_trans (HL.out z hz) (by decide)))
 obtain⟨c0,c1⟩:=F1.c2 0 rfl
 have c2':=F1.cell 1 0 rfl rfl
 go_wp2_with fail
 refine EL.out.mono ?_
 rintro e w3 ⟨bb,aa,kk,kc,W1,rfl,hx,hb3,hRV⟩
 have l1:=hR1.lt
 have RE:=elim_rows (rangeAt_below hrg ba hg) (Nat.lt_of_lt_of_le hg ba.size) hne hR0 rfl hr1 (Nat.lt_of_lt_of_le l1 ba.size) (fun b q1 q2=>(ba.block b (by omega)).trans (hk b q1 q2)) hx hb3 hRV rfl
 have lr0:=hR0.lt
 simp only[World.size_alloc] at hr0
 have k0:=(hx.cell hb3 (p:=⟨w.heap.size,0,none⟩) (by show w.heap.size≠r1;omega) (by simp;have:=hb.size;simp at this;omega)).trans (F1.cell 1 0 rfl rfl)
 have k1:=(hx.cell hb3 (p:=⟨w1.heap.size,0,none⟩) (by show w1.heap.size≠r1;omega) (by simp)).trans (F1.cell 0 0 rfl rfl)
 have k2:=(hx.cell hb3 (p:=⟨w1.heap.size,1,none⟩) (by show w1.heap.size≠r1;omega) (by simp)).trans (F1.cell 0 1 rfl rfl)
 have mk:=make_ff
 have ic:(2:Int)≤(c:Int):=by omega
 have ic2:(c:Int)≤9223372036854775807:=by unfold maxLen at hcm;omega
 have b0:w.heap.size<w3.heap.size:=by have:=hb3.size;rw[hx.size] at this;have:=hb.size;simp at *;omega
 have b1:w1.heap.size<w3.heap.size:=by have:=hb3.size;rw[hx.size] at this;simp at *;omega
 have BW:Below w.heap.size w w3:=by
  refine F1.below.trans ⟨by rw[hb3.os,hx.os],by rw[hb3.tape,hx.tape],by rw[hb3.output,hx.output],by have:=hb3.size;rw[hx.size] at this;exact this,fun b hb'=>?_⟩
  rw[hb3.block b (by rw[hx.size];simp;have:=hb.size;simp at this;omega),hx.block b (by omega)]
 clear c0 c1 c2' EL hRV
 go_upto_region 6 with fail
 clear mk
 have b4:=(Below.refl w3.heap.size w3).alloc (Nat.le_refl _) (.cells (wdV bb aa kk kc).toArray 66)
 obtain⟨w4,hw4⟩:∃ W,W=w3.alloc (.cells #[.bool bb, .slice aa kk kc] 66):=⟨_,rfl⟩
 replace b4:Below w3.heap.size w3 w4:=by rw[hw4];exact b4
 have s4:w4.heap.size=w3.heap.size+1:=by rw[hw4];simp
 rw[← hw4,← s4]
 replace RE:=RE.below b4
 replace k0:=(b4.cell (p:=⟨w.heap.size,0,none⟩) b0).trans k0
 replace k1:=(b4.cell (p:=⟨w1.heap.size,0,none⟩) b1).trans k1
 replace k2:=(b4.cell (p:=⟨w1.heap.size,1,none⟩) b1).trans k2
 replace b0:w.heap.size<w4.heap.size:=by omega
 replace b1:w1.heap.size<w4.heap.size:=by omega
 replace BW:=BW.trans (b4.mono (by have:=BW.size;omega))
 clear s4 hw4 b4 hx hb3 hb hR0 hR1 hk hW0 hr1 hr0 hrg hg hWg hne F1 ba l1 lr0 H0 H1 WH F0
 have F5:=((Fr.start w4).alloc [.slice none 0 0, .slice none 0 0] 131).alloc [.slice (some ⟨w4.heap.size,0,none⟩) 2 2] 177
 simp only[World.size_alloc] at F5
 have m0:=(F5.below.cell (p:=⟨w.heap.size,0,none⟩) b0).trans k0
 have m1:=(F5.below.cell (p:=⟨w1.heap.size,0,none⟩) b1).trans k1
 have m2:=(F5.below.cell (p:=⟨w1.heap.size,1,none⟩) b1).trans k2
 replace F5:=Lib.hid F5
 go_wp2_with (go_at_call 179;refine(backward_walk _ _ _ _).mono ?_;rintro e w' ⟨rfl,rfl⟩)
 have F6:=F5.out.alloc [.slice (some ⟨g,0,none⟩) 2 c] 221
 have bB:=World.alloc_heap_new ((w4.alloc (.cells #[.slice none 0 0, .slice none 0 0] 131)).alloc (.cells #[.slice (some ⟨w4.heap.size,0,none⟩) 2 2] 177)) (.cells #[.slice (some ⟨g,0,none⟩) 2 c] 221)
 simp only[World.size_alloc] at F6 bB
 clear m0 m1 m2 F5
 obtain⟨w7,hw7⟩:∃ W,W=((w4.alloc (.cells #[.slice none 0 0, .slice none 0 0] 131)).alloc (.cells #[.slice (some ⟨w4.heap.size,0,none⟩) 2 2] 177)).alloc (.cells #[.slice (some ⟨g,0,none⟩) 2 c] 221):=⟨_,rfl⟩
 have s7:w7.heap.size=w4.heap.size+1+1+1:=by rw[hw7];simp
 rw[← hw7] at F6 bB ⊢
 clear hw7
 refine(wpIn_wide (n:=3)).1 ?_
 refine range_rounds (n:=3) (by omega) (gf:=209) (lb:=#[.pointer (some ⟨w4.heap.size+1+1,0,none⟩)]) rfl (enters_of Tryz.func209 (by kernel_rfl) rfl) (bkEnc (rowsR r0 r1)) 2 (fun _=>rfl) (KeepB w4.heap.size (w4.heap.size+1+1)) (OutI w4 w4.heap.size g c (w4.heap.size+3) x0 x1)
  (fun l J W hb hY h0=>bk1_in 1 l (w4.heap.size+1+1) g c (rowsR r0 r1) w4 RE.hd RE.lt J hY W (F6.below.trans (hb.mono F6.below.size)) ((hb.block _ (by omega)).trans bB) h0)
  (fun A B C h k=>keepB_t h k) (fun W l o o' hl ho hc=>⟨below_putObj W l o o' (by omega) ho,World.putObj_heap_other (by omega)⟩)
  (fun k W l o o' hl ho hc h=>h.putObj o' (by omega) ho hc) (fun W hb=>⟨_,_,F6.call hb,fun _=>rfl,fun _=>rfl,fun q=>absurd q (by omega),fun q=>absurd q (by omega)⟩)
  (fun k=>{ tmps:=#[.slice (some ⟨g0,0,none⟩) 2 c0, .int .i64 2,undef, .pointer (some ⟨w.heap.size,0,none⟩), .slice none 0 0, .bool false, .pointer (some ⟨w1.heap.size,0,none⟩), .int .i64 2, .bool false, .pointer (some ⟨w3.heap.size,0,none⟩), .pointer (some ⟨w4.heap.size+1,0,none⟩), .int .i64 ((1-k:Nat):Int), .slice (some ⟨rowsR r0 r1 (1-k),0,none⟩) 3 3,undef,undef,undef,undef,undef,undef,undef,undef,undef,undef, .slice (some ⟨g0,0,none⟩) 2 c0, .agg #[.slice (some ⟨g,0,none⟩) 2 c, .slice A2 n2 c2], .tuple #[.int .i64 2, .bool false, .agg (wdV bb aa kk kc).toArray], .agg #[.slice (some ⟨g,0,none⟩) 2 c, .slice A2 n2 c2], .int .i64 2, .tuple #[.int .i64 2, .bool false, .agg (wdV bb aa kk kc).toArray], .int .i64 2, .bool false, .agg (wdV bb aa kk kc).toArray, .int .i64 2, .int .i64 2, .bool false, .int .i64 2, .slice (some ⟨w4.heap.size,0,none⟩) 2 2, .pointer (some ⟨w1.heap.size,0,none⟩), .slice (some ⟨g,0,none⟩) 2 c, .int .i64 2, .slice (some ⟨g,0,none⟩) 2 c, .func (.func 209) #[] #[.pointer (some ⟨w4.heap.size+1+1,0,none⟩)], .int .i64 ((1-k:Nat):Int), .slice (some ⟨rowsR r0 r1 (1-k),0,none⟩) 3 3,undef,undef,undef,undef,undef,undef,undef,undef,undef,undef,undef,undef,undef,undef,undef,undef,undef,undef,undef,undef,undef,undef,undef,undef,undef,undef,undef,undef,undef,undef,undef,undef,undef,undef,undef,undef,undef,undef,undef,undef,undef,undef,undef,undef,undef,undef,undef,undef,undef,undef,undef,undef,undef,undef,undef,undef,undef,undef,undef,undef,undef,undef,undef,undef,undef,undef,undef,undef,undef,undef,undef,undef,undef,undef,undef,undef,undef,undef],defers:=[] }) ?assign ?body ?done
 case assign =>
  intro l k W K hK
  dsimp only[bkEnc]
  gi_wp2
  exact hK
 case body =>
  intro l k W hk hI
  have hbo:=Lib.hid (show w4.heap.size<w7.heap.size by omega)
  replace s7:=Lib.hid s7
  have LLL:=Lib.hid (len_rows HL.out)
  have ST:=Lib.hid (fun (w':World) (v':Value) (hb:Below W.heap.size W w') (hv:RowF w' W.heap.size v' [if k=0 then x1 else x0])=>hI.step hk (Nat.le_refl _) hb hv)
  obtain⟨X0,X1,hF,q0,q1,p1,p0⟩:=hI
  rcases(show k=0∨k=1 by omega) with rfl|rfl
  ·
   have hs:=(hF.least 0 rfl).2
   have e0:=q0 (by omega)
   subst e0
   have e1:=q1 rfl
   subst e1
   rw[show ((1-0:Nat):Int)=1 from rfl,show (1-0:Nat)=1 from rfl]
   have NB:=Lib.hid (fun w' (hb:Below W.heap.size W w')=>((below_then hF.below hb).cell (p:=⟨w.heap.size,0,none⟩) b0).trans k0)
   have TB:=Lib.hid (fun w' (hb:Below W.heap.size W w')=>(hF.call hb).cell 1 0 rfl rfl)
   have FB:=Lib.hid (fun w' (hb:Below W.heap.size W w')=>hF.call hb)
   have ST':=Lib.hid (fun (w':World) (v':Value) (hb:Below W.heap.size W w') (hv:RowF w' W.heap.size v' [x1])=>ST.out w' v' hb hv)
   clear ST
   obtain⟨xa12,xk12,xc12,hc12⟩:=RE.at hF.below 1 2 (by omega) (by omega)
   obtain⟨z12,hz12⟩:∃ z,z=rowsZ [n,s1,y0] [t1*n-t1*n,s2*n-t1*s1,y1*n-t1*y0] 1 2:=⟨_,rfl⟩
   rw[← hz12] at hc12
   have CF12:=Lib.hid hc12
   replace hz12:z12=y1*n-t1*y0:=hz12
   obtain⟨f12,hf12⟩:∃ q:Rat,q=(z12:Rat):=⟨_,rfl⟩
   have ll12:(canon z12.natAbs).length≤50:=by rw[hz12];exact LLL.out _ (by simp)
   have MKK12:=Lib.hid (fun V1 V2 w' (h1:Wide 0 w' V1 z12) (h2:Wide 0 w' V2 ((1:Nat):Int))=>make_any V1 V2 z12 1 w' h1 h2 (by decide) (Nat.le_trans ll12 (by decide)) (Nat.le_trans (canon_len 1 1 (by decide)) (by decide)))
   rw[Rat.mkRat_one z12,← hf12] at MKK12
   have FL12:FL f12 50:=by rw[hf12];exact FL.int ll12 (by decide)
   replace FL12:=Lib.hid FL12
   replace hf12:=Lib.hid hf12
   replace hz12:=Lib.hid hz12
   clear hc12 ll12
   obtain⟨xa11,xk11,xc11,hc11⟩:=RE.at hF.below 1 1 (by omega) (by omega)
   obtain⟨z11,hz11⟩:∃ z,z=rowsZ [n,s1,y0] [t1*n-t1*n,s2*n-t1*s1,y1*n-t1*y0] 1 1:=⟨_,rfl⟩
   rw[← hz11] at hc11
   have CF11:=Lib.hid hc11
   replace hz11:z11=s2*n-t1*s1:=hz11
   obtain⟨f11,hf11⟩:∃ q:Rat,q=(z11:Rat):=⟨_,rfl⟩
   have ll11:(canon z11.natAbs).length≤50:=by rw[hz11];exact LLL.out _ (by simp)
   have MKK11:=Lib.hid (fun V1 V2 w' (h1:Wide 0 w' V1 z11) (h2:Wide 0 w' V2 ((1:Nat):Int))=>make_any V1 V2 z11 1 w' h1 h2 (by decide) (Nat.le_trans ll11 (by decide)) (Nat.le_trans (canon_len 1 1 (by decide)) (by decide)))
   rw[Rat.mkRat_one z11,← hf11] at MKK11
   have FL11:FL f11 50:=by rw[hf11];exact FL.int ll11 (by decide)
   replace FL11:=Lib.hid FL11
   replace hf11:=Lib.hid hf11
   replace hz11:=Lib.hid hz11
   clear hc11 ll11
   have m0:=NB.out W (Below.refl _ _)
   clear hF q0 q1 p0 p1
   gi_wp2
   clear m0
   gi_loopw [13,14,15,16,17,18,19,20,21,22] (fun kv _ _ _ _ _ _ _ _ _ wr=>(kv = .int .i64 2∧W=wr)∨(kv = .int .i64 3∧Hid (OutI w4 w4.heap.size g c (w4.heap.size+3) x0 x1 (0+1) wr∧KeepB w4.heap.size (w4.heap.size+1+1) W wr∧KeepsFrom w7.heap.size W wr))) (fun kv _ _ _ _ _ _ _ _ _ _=>3-(intOf kv).toNat)
   case atStart=>exact Or.inl ⟨rfl,rfl⟩
   case round =>
    rcases hrel with⟨rfl,hw⟩|⟨rfl,hfin⟩
    ·subst hw
     gi_upto_region 12 with fail
     have FQ:=Lib.hid (Fr.start W)
     gi_cut [14,15,121] from 51 (fun p e z wx=>NewF W [] W f12 p wx∧e = .int .i64 0∧z=undef)
     case first =>
      have FF:=Lib.hid (FQ.out).drew
      obtain⟨B0,hB0⟩:∃ b,b=W.drew.heap.size:=⟨_,rfl⟩
      have LO:=Lib.hid (show W.heap.size≤B0 from by rw[hB0];exact Nat.le_refl _)
      have BB:=Lib.hid (Below.refl B0 W.drew)
      have BQ:=Lib.hid (show B0≤W.drew.heap.size from Nat.le_of_eq hB0)
      have LB:=Lib.hid ((Below.refl W.heap.size W).drew)
      have HS:=Lib.hid ((CF12.out _ FF.out.below).2.2)
      have MK:=Lib.hid (MKK12.out)
      clear hB0
      refine TillSt.startIn (fun w'=>w'.cell? ⟨rowsR r0 r1 1,4,none⟩=some (.bool (decide (z12<0)))∧w'.cell? ⟨rowsR r0 r1 1,5,none⟩=some (.slice xa12 xk12 xc12)) 10 (by kernel_rfl) (by kernel_rfl) (fun h=>by obtain⟨_,_,h⟩:=h;exact nomatch h.1) (⟨(CF12.out _ FF.out.below).1,(CF12.out _ FF.out.below).2.1⟩) (fun hHeld=>?_)
      generalize W.drew=wd at *
      refine TillSt.tP 0 (fun _=>hHeld) ?_
      refine TillSt.tP 1 (fun _=>hHeld) ?_
      refine TillSt.tP 2 (fun _=>hHeld) ?_
      refine TillSt.tL 3 hHeld (hy:=Or.inl ⟨by rfl,by intro w hSw;obtain⟨q1,q2⟩:=hSw;go_simp;try with_reducible rfl⟩) (h:=?_)
      refine TillSt.nx [4,9] ?_
      refine NextSt.cons rfl (fun K' hK=>?_) (NextSt.cons rfl (fun K' hK=>?_) NextSt.nil)
      ·
       clear hHeld
       go_simp
       refine(from_walk 1 _ (by decide) (by decide)).mono ?_
       rintro e w6 ⟨V6,rfl,hV,hb⟩
       replace FF:=Lib.hid (FF.out.call hb)
       replace HS:=Lib.hid (HS.out.below hb)
       replace BB:=Lib.hid (BB.out.trans (hb.mono BQ.out))
       replace BQ:=Lib.hid (Nat.le_trans BQ.out hb.size)
       have H6:=Lib.hid (show Wide 0 w6 V6 ((1:Nat):Int) from hV.mono (Nat.zero_le _))
       clear hV hb
       refine hK.out _ _ (⟨(CF12.out _ FF.out.below).1,(CF12.out _ FF.out.below).2.1⟩) (fun hHeld=>?_)
       clear hK
       try simp only[Act.put,Lw.s1,Lw.s2,Lw.s3]
       refine TillSt.nx [5,9] ?_
       refine NextSt.cons rfl (fun K' hK=>?_) (NextSt.cons rfl (fun K' hK=>?_) NextSt.nil)
       ·
        clear hHeld
        go_simp
        refine(MK.out _ V6 _ (wide0 HS.out) H6.out).mono ?_
        rintro e w7 ⟨V,rfl,⟨aq,kq,cq,aq2,kq2,cq2,rfl,l1,l2,f1,f2⟩,hb⟩
        have G1:=Lib.hid (fun b off e=>Nat.le_trans BQ.out (f1 b off e))
        have G2:=Lib.hid (fun b off e=>Nat.le_trans BQ.out (f2 b off e))
        replace FF:=Lib.hid (FF.out.call hb)
        replace BB:=Lib.hid (BB.out.trans (hb.mono BQ.out))
        replace BQ:=Lib.hid (Nat.le_trans BQ.out hb.size)
        have L1:=Lib.hid l1
        have L2:=Lib.hid l2
        clear l1 l2 f1 f2 hb H6 HS
        refine hK.out _ _ (⟨(CF12.out _ FF.out.below).1,(CF12.out _ FF.out.below).2.1⟩) (fun hHeld=>?_)
        clear hK
        try simp only[Act.put,Lw.s1,Lw.s2,Lw.s3]
        refine TillSt.tP 6 (fun _=>hHeld) ?_
        refine TillSt.tP 7 (fun _=>hHeld) ?_
        refine TillSt.tP 8 (fun _=>hHeld) ?_
        refine TillSt.nx [9] ?_
        refine NextSt.cons rfl (fun K' hK=>?_) NextSt.nil
        clear hHeld
        go_simp
        have FA:=FF.out.alloc (frV false none 0 0 false none 0 0) 68
        have ba:=(Below.refl _ w7).alloc (Nat.le_refl _) (.cells (frV false none 0 0 false none 0 0).toArray 68)
        have NB:=Lib.hid BQ.out
        replace BB:=Lib.hid (BB.out.trans (ba.mono BQ.out))
        replace BQ:=Lib.hid (Nat.le_trans BQ.out ba.size)
        replace FF:=Lib.hid FA
        have G3:=Lib.hid (fun (p:0<kq) b off e=>Nat.ne_of_lt (L1.out.lt p (b:=b) (off:=off) e))
        have G4:=Lib.hid (fun (p:0<kq2) b off e=>Nat.ne_of_lt (L2.out.lt p (b:=b) (off:=off) e))
        replace L1:=Lib.hid (L1.out.below ba)
        replace L2:=Lib.hid (L2.out.below ba)
        clear FA ba
        generalize w7.heap.size=bN at *
        generalize World.alloc w7 (.cells #[.bool false, .slice none 0 0, .bool false, .slice none 0 0] 68)=wn at *
        refine hK.out _ _ (⟨(CF12.out _ FF.out.below).1,(CF12.out _ FF.out.below).2.1⟩) (fun hHeld=>?_)
        clear hK
        try simp only[Act.put,Lw.s1,Lw.s2,Lw.s3]
        refine TillSt.nx [10] ?_
        refine NextSt.last rfl (by kernel_rfl) (fun K' hK=>?_) NextSt.nil
        obtain⟨s0,s1,s2,s3⟩:=FF.out.c4 0 rfl
        obtain⟨s4,s5,s6,s7⟩:=FF.out.f4 0 rfl
        clear hHeld
        go_simp
        clear s0 s1 s2 s3 s4 s5 s6 s7
        refine hK.out _ _ ?_
        clear hK
        try simp only[Act.put,Lw.s1,Lw.s2,Lw.s3]
        refine TillSt.tP 11 (fun q=>by cases q) ?_
        refine TillSt.done (by kernel_rfl) ?_ _
        have PQ:=FF.out.put 0 rfl (frV (decide (f12.num<0)) aq kq cq false aq2 kq2 cq2) rfl
        have bb:=below_setCells bN NB.out (frV (decide (f12.num<0)) aq kq cq false aq2 kq2 cq2) 0 _ BB.out
        have nf:=Lib.hid (show NewF _ _ _ f12 (.pointer (some ⟨bN,0,none⟩)) _ from⟨bN,⟨decide (f12.num<0),aq,kq,cq,aq2,kq2,cq2⟩,rfl,Nat.le_trans LO.out NB.out,PQ,⟨rfl,L1.out.setCellsK G3.out 0 (frV (decide (f12.num<0)) aq kq cq false aq2 kq2 cq2),L2.out.setCellsK G4.out 0 (frV (decide (f12.num<0)) aq kq cq false aq2 kq2 cq2),fun b off e=>Nat.le_trans LO.out (G1.out b off e),fun b off e=>Nat.le_trans LO.out (G2.out b off e)⟩,⟨fun p b off e q=>G3.out p b off e (by cases q;rfl),fun p b off e q=>G4.out p b off e (by cases q;rfl)⟩,LB.out.trans (bb.mono LO.out)⟩)
        clear PQ bb FF BB BQ L1 L2 G1 G2 G3 G4 NB
        gi_wp2
        gi_meet
        case rel=>exact⟨nf.out,rfl,rfl⟩
       ·
        clear hHeld
        go_simp
        have FA:=FF.out.alloc (frV false none 0 0 false none 0 0) 68
        have ba:=(Below.refl _ w6).alloc (Nat.le_refl _) (.cells (frV false none 0 0 false none 0 0).toArray 68)
        have NB:=Lib.hid BQ.out
        replace BB:=Lib.hid (BB.out.trans (ba.mono BQ.out))
        replace BQ:=Lib.hid (Nat.le_trans BQ.out ba.size)
        replace FF:=Lib.hid FA
        replace HS:=Lib.hid (HS.out.below ba)
        replace H6:=Lib.hid (H6.out.below ba)
        clear FA ba
        generalize w6.heap.size=bN at *
        generalize World.alloc w6 (.cells #[.bool false, .slice none 0 0, .bool false, .slice none 0 0] 68)=wn at *
        refine hK.out _ _ (⟨(CF12.out _ FF.out.below).1,(CF12.out _ FF.out.below).2.1⟩) (fun hHeld=>?_)
        clear hK
        try simp only[Act.put,Lw.s1,Lw.s2,Lw.s3]
        refine TillSt.nx [5] ?_
        refine NextSt.cons rfl (fun K' hK=>?_) NextSt.nil
        clear hHeld
        go_simp
        refine(MK.out _ V6 _ (wide0 HS.out) H6.out).mono ?_
        rintro e w7 ⟨V,rfl,⟨aq,kq,cq,aq2,kq2,cq2,rfl,l1,l2,f1,f2⟩,hb⟩
        have fq:=(FF.out.least 0 rfl).2
        have G1:=Lib.hid (fun b off e=>Nat.le_trans BQ.out (f1 b off e))
        have G2:=Lib.hid (fun b off e=>Nat.le_trans BQ.out (f2 b off e))
        have G3:=Lib.hid (fun (_:0<kq) b off e=>(Nat.ne_of_lt (Nat.lt_of_lt_of_le fq (f1 b off e))).symm)
        have G4:=Lib.hid (fun (_:0<kq2) b off e=>(Nat.ne_of_lt (Nat.lt_of_lt_of_le fq (f2 b off e))).symm)
        clear fq
        replace FF:=Lib.hid (FF.out.call hb)
        replace BB:=Lib.hid (BB.out.trans (hb.mono BQ.out))
        replace BQ:=Lib.hid (Nat.le_trans BQ.out hb.size)
        have L1:=Lib.hid l1
        have L2:=Lib.hid l2
        clear l1 l2 f1 f2 hb H6 HS
        refine hK.out _ _ (⟨(CF12.out _ FF.out.below).1,(CF12.out _ FF.out.below).2.1⟩) (fun hHeld=>?_)
        clear hK
        try simp only[Act.put,Lw.s1,Lw.s2,Lw.s3]
        refine TillSt.tP 6 (fun _=>hHeld) ?_
        refine TillSt.tP 7 (fun _=>hHeld) ?_
        refine TillSt.tP 8 (fun _=>hHeld) ?_
        refine TillSt.nx [10] ?_
        refine NextSt.last rfl (by kernel_rfl) (fun K' hK=>?_) NextSt.nil
        obtain⟨s0,s1,s2,s3⟩:=FF.out.c4 0 rfl
        obtain⟨s4,s5,s6,s7⟩:=FF.out.f4 0 rfl
        clear hHeld
        go_simp
        clear s0 s1 s2 s3 s4 s5 s6 s7
        refine hK.out _ _ ?_
        clear hK
        try simp only[Act.put,Lw.s1,Lw.s2,Lw.s3]
        refine TillSt.tP 11 (fun q=>by cases q) ?_
        refine TillSt.done (by kernel_rfl) ?_ _
        have PQ:=FF.out.put 0 rfl (frV (decide (f12.num<0)) aq kq cq false aq2 kq2 cq2) rfl
        have bb:=below_setCells bN NB.out (frV (decide (f12.num<0)) aq kq cq false aq2 kq2 cq2) 0 _ BB.out
        have nf:=Lib.hid (show NewF _ _ _ f12 (.pointer (some ⟨bN,0,none⟩)) _ from⟨bN,⟨decide (f12.num<0),aq,kq,cq,aq2,kq2,cq2⟩,rfl,Nat.le_trans LO.out NB.out,PQ,⟨rfl,L1.out.setCellsK G3.out 0 (frV (decide (f12.num<0)) aq kq cq false aq2 kq2 cq2),L2.out.setCellsK G4.out 0 (frV (decide (f12.num<0)) aq kq cq false aq2 kq2 cq2),fun b off e=>Nat.le_trans LO.out (G1.out b off e),fun b off e=>Nat.le_trans LO.out (G2.out b off e)⟩,⟨fun p b off e q=>G3.out p b off e (by cases q;rfl),fun p b off e q=>G4.out p b off e (by cases q;rfl)⟩,LB.out.trans (bb.mono LO.out)⟩)
        clear PQ bb FF BB BQ L1 L2 G1 G2 G3 G4 NB
        gi_wp2
        gi_meet
        case rel=>exact⟨nf.out,rfl,rfl⟩
      ·
       clear hHeld
       go_simp
       have FA:=FF.out.alloc (frV false none 0 0 false none 0 0) 68
       have ba:=(Below.refl _ wd).alloc (Nat.le_refl _) (.cells (frV false none 0 0 false none 0 0).toArray 68)
       have NB:=Lib.hid BQ.out
       replace BB:=Lib.hid (BB.out.trans (ba.mono BQ.out))
       replace BQ:=Lib.hid (Nat.le_trans BQ.out ba.size)
       replace FF:=Lib.hid FA
       replace HS:=Lib.hid (HS.out.below ba)
       clear FA ba
       generalize wd.heap.size=bN at *
       generalize World.alloc wd (.cells #[.bool false, .slice none 0 0, .bool false, .slice none 0 0] 68)=wn at *
       refine hK.out _ _ (⟨(CF12.out _ FF.out.below).1,(CF12.out _ FF.out.below).2.1⟩) (fun hHeld=>?_)
       clear hK
       try simp only[Act.put,Lw.s1,Lw.s2,Lw.s3]
       refine TillSt.nx [4] ?_
       refine NextSt.cons rfl (fun K' hK=>?_) NextSt.nil
       clear hHeld
       go_simp
       refine(from_walk 1 _ (by decide) (by decide)).mono ?_
       rintro e w6 ⟨V6,rfl,hV,hb⟩
       replace FF:=Lib.hid (FF.out.call hb)
       replace HS:=Lib.hid (HS.out.below hb)
       replace BB:=Lib.hid (BB.out.trans (hb.mono BQ.out))
       replace BQ:=Lib.hid (Nat.le_trans BQ.out hb.size)
       have H6:=Lib.hid (show Wide 0 w6 V6 ((1:Nat):Int) from hV.mono (Nat.zero_le _))
       clear hV hb
       refine hK.out _ _ (⟨(CF12.out _ FF.out.below).1,(CF12.out _ FF.out.below).2.1⟩) (fun hHeld=>?_)
       clear hK
       try simp only[Act.put,Lw.s1,Lw.s2,Lw.s3]
       refine TillSt.nx [5] ?_
       refine NextSt.cons rfl (fun K' hK=>?_) NextSt.nil
       clear hHeld
       go_simp
       refine(MK.out _ V6 _ (wide0 HS.out) H6.out).mono ?_
       rintro e w7 ⟨V,rfl,⟨aq,kq,cq,aq2,kq2,cq2,rfl,l1,l2,f1,f2⟩,hb⟩
       have fq:=(FF.out.least 0 rfl).2
       have G1:=Lib.hid (fun b off e=>Nat.le_trans BQ.out (f1 b off e))
       have G2:=Lib.hid (fun b off e=>Nat.le_trans BQ.out (f2 b off e))
       have G3:=Lib.hid (fun (_:0<kq) b off e=>(Nat.ne_of_lt (Nat.lt_of_lt_of_le fq (f1 b off e))).symm)
       have G4:=Lib.hid (fun (_:0<kq2) b off e=>(Nat.ne_of_lt (Nat.lt_of_lt_of_le fq (f2 b off e))).symm)
       clear fq
       replace FF:=Lib.hid (FF.out.call hb)
       replace BB:=Lib.hid (BB.out.trans (hb.mono BQ.out))
       replace BQ:=Lib.hid (Nat.le_trans BQ.out hb.size)
       have L1:=Lib.hid l1
       have L2:=Lib.hid l2
       clear l1 l2 f1 f2 hb H6 HS
       refine hK.out _ _ (⟨(CF12.out _ FF.out.below).1,(CF12.out _ FF.out.below).2.1⟩) (fun hHeld=>?_)
       clear hK
       try simp only[Act.put,Lw.s1,Lw.s2,Lw.s3]
       refine TillSt.tP 6 (fun _=>hHeld) ?_
       refine TillSt.tP 7 (fun _=>hHeld) ?_
       refine TillSt.tP 8 (fun _=>hHeld) ?_
       refine TillSt.nx [10] ?_
       refine NextSt.last rfl (by kernel_rfl) (fun K' hK=>?_) NextSt.nil
       obtain⟨s0,s1,s2,s3⟩:=FF.out.c4 0 rfl
       obtain⟨s4,s5,s6,s7⟩:=FF.out.f4 0 rfl
       clear hHeld
       go_simp
       clear s0 s1 s2 s3 s4 s5 s6 s7
       refine hK.out _ _ ?_
       clear hK
       try simp only[Act.put,Lw.s1,Lw.s2,Lw.s3]
       refine TillSt.tP 11 (fun q=>by cases q) ?_
       refine TillSt.done (by kernel_rfl) ?_ _
       have PQ:=FF.out.put 0 rfl (frV (decide (f12.num<0)) aq kq cq false aq2 kq2 cq2) rfl
       have bb:=below_setCells bN NB.out (frV (decide (f12.num<0)) aq kq cq false aq2 kq2 cq2) 0 _ BB.out
       have nf:=Lib.hid (show NewF _ _ _ f12 (.pointer (some ⟨bN,0,none⟩)) _ from⟨bN,⟨decide (f12.num<0),aq,kq,cq,aq2,kq2,cq2⟩,rfl,Nat.le_trans LO.out NB.out,PQ,⟨rfl,L1.out.setCellsK G3.out 0 (frV (decide (f12.num<0)) aq kq cq false aq2 kq2 cq2),L2.out.setCellsK G4.out 0 (frV (decide (f12.num<0)) aq kq cq false aq2 kq2 cq2),fun b off e=>Nat.le_trans LO.out (G1.out b off e),fun b off e=>Nat.le_trans LO.out (G2.out b off e)⟩,⟨fun p b off e q=>G3.out p b off e (by cases q;rfl),fun p b off e q=>G4.out p b off e (by cases q;rfl)⟩,LB.out.trans (bb.mono LO.out)⟩)
       clear PQ bb FF BB BQ L1 L2 G1 G2 G3 G4 NB
       gi_wp2
       gi_meet
       case rel=>exact⟨nf.out,rfl,rfl⟩
     case rest =>
      obtain⟨⟨b,y,rfl,hbl,hF12,hy,ho,hb⟩,rfl,rfl⟩:=hcut
      have m0:=NB.out _ hF12.below
      have FY0:=Lib.hid hF12
      have HY0:=Lib.hid hy
      clear hbl hF12 hy ho hb
      gi_wp2
      gi_loopw [16,17,18,19,20] (fun jv _ _ _ _ wr=>jv = .int .i64 2∧wc=wr) (fun _ _ _ _ _ _=>0)
      case atStart=>exact⟨rfl,rfl⟩
      case round =>
       obtain⟨rfl,hw⟩:=hrel
       subst hw
       obtain⟨wz,hwz⟩:∃ x,x=wc:=⟨_,rfl⟩
       rw[← hwz] at m0 FY0 HY0 ⊢
       clear hwz
       obtain⟨sv,hsv⟩:∃ q,q=f12:=⟨_,rfl⟩
       have FY:=FY0
       have HY:=HY0
       rw[← hsv] at HY
       have FLS:=Lib.hid (show FL sv 900 from by rw[hsv];exact FL12.out.mono (by decide))
       have XE:=Lib.hid (show sv/f11=x1 from by rw[hsv,E1.out,hf12.out,hf11.out,hz12.out,hz11.out])
       have POS:=Lib.hid (show 0<f11.num from by rw[hf11.out,Rat.num_intCast,hz11.out];exact HD.out)
       clear hsv FY0 HY0
       gi_upto_region 19 with fail
       have FQ:=FY
       gi_cut [21,22,121] from 96 (fun p e z wx=>NewF W [(b,fcE y)] wz f11 p wx∧e = .int .i64 0∧z=undef)
       case first =>
        have FF:=Lib.hid (FQ.out).drew
        obtain⟨B0,hB0⟩:∃ b,b=wz.drew.heap.size:=⟨_,rfl⟩
        have LO:=Lib.hid (show wz.heap.size≤B0 from by rw[hB0];exact Nat.le_refl _)
        have BB:=Lib.hid (Below.refl B0 wz.drew)
        have BQ:=Lib.hid (show B0≤wz.drew.heap.size from Nat.le_of_eq hB0)
        have LB:=Lib.hid ((Below.refl wz.heap.size wz).drew)
        have HS:=Lib.hid ((CF11.out _ FF.out.below).2.2)
        have MK:=Lib.hid (MKK11.out)
        clear hB0
        refine TillSt.startIn (fun w'=>w'.cell? ⟨rowsR r0 r1 1,2,none⟩=some (.bool (decide (z11<0)))∧w'.cell? ⟨rowsR r0 r1 1,3,none⟩=some (.slice xa11 xk11 xc11)) 10 (by kernel_rfl) (by kernel_rfl) (fun h=>by obtain⟨_,_,h⟩:=h;exact nomatch h.1) (⟨(CF11.out _ FF.out.below).1,(CF11.out _ FF.out.below).2.1⟩) (fun hHeld=>?_)
        generalize wz.drew=wd at *
        refine TillSt.tP 0 (fun _=>hHeld) ?_
        refine TillSt.tP 1 (fun _=>hHeld) ?_
        refine TillSt.tP 2 (fun _=>hHeld) ?_
        refine TillSt.tL 3 hHeld (hy:=Or.inl ⟨by rfl,by intro w hSw;obtain⟨q1,q2⟩:=hSw;go_simp;try with_reducible rfl⟩) (h:=?_)
        refine TillSt.nx [4,9] ?_
        refine NextSt.cons rfl (fun K' hK=>?_) (NextSt.cons rfl (fun K' hK=>?_) NextSt.nil)
        ·
         clear hHeld
         go_simp
         refine(from_walk 1 _ (by decide) (by decide)).mono ?_
         rintro e w6 ⟨V6,rfl,hV,hb⟩
         replace FF:=Lib.hid (FF.out.call hb)
         replace HS:=Lib.hid (HS.out.below hb)
         replace BB:=Lib.hid (BB.out.trans (hb.mono BQ.out))
         replace BQ:=Lib.hid (Nat.le_trans BQ.out hb.size)
         have H6:=Lib.hid (show Wide 0 w6 V6 ((1:Nat):Int) from hV.mono (Nat.zero_le _))
         clear hV hb
         refine hK.out _ _ (⟨(CF11.out _ FF.out.below).1,(CF11.out _ FF.out.below).2.1⟩) (fun hHeld=>?_)
         clear hK
         try simp only[Act.put,Lw.s1,Lw.s2,Lw.s3]
         refine TillSt.nx [5,9] ?_
         refine NextSt.cons rfl (fun K' hK=>?_) (NextSt.cons rfl (fun K' hK=>?_) NextSt.nil)
         ·
          clear hHeld
          go_simp
          refine(MK.out _ V6 _ (wide0 HS.out) H6.out).mono ?_
          rintro e w7 ⟨V,rfl,⟨aq,kq,cq,aq2,kq2,cq2,rfl,l1,l2,f1,f2⟩,hb⟩
          have G1:=Lib.hid (fun b off e=>Nat.le_trans BQ.out (f1 b off e))
          have G2:=Lib.hid (fun b off e=>Nat.le_trans BQ.out (f2 b off e))
          replace FF:=Lib.hid (FF.out.call hb)
          replace BB:=Lib.hid (BB.out.trans (hb.mono BQ.out))
          replace BQ:=Lib.hid (Nat.le_trans BQ.out hb.size)
          have L1:=Lib.hid l1
          have L2:=Lib.hid l2
          clear l1 l2 f1 f2 hb H6 HS
          refine hK.out _ _ (⟨(CF11.out _ FF.out.below).1,(CF11.out _ FF.out.below).2.1⟩) (fun hHeld=>?_)
          clear hK
          try simp only[Act.put,Lw.s1,Lw.s2,Lw.s3]
          refine TillSt.tP 6 (fun _=>hHeld) ?_
          refine TillSt.tP 7 (fun _=>hHeld) ?_
          refine TillSt.tP 8 (fun _=>hHeld) ?_
          refine TillSt.nx [9] ?_
          refine NextSt.cons rfl (fun K' hK=>?_) NextSt.nil
          clear hHeld
          go_simp
          have FA:=FF.out.alloc (frV false none 0 0 false none 0 0) 68
          have ba:=(Below.refl _ w7).alloc (Nat.le_refl _) (.cells (frV false none 0 0 false none 0 0).toArray 68)
          have NB:=Lib.hid BQ.out
          replace BB:=Lib.hid (BB.out.trans (ba.mono BQ.out))
          replace BQ:=Lib.hid (Nat.le_trans BQ.out ba.size)
          replace FF:=Lib.hid FA
          have G3:=Lib.hid (fun (p:0<kq) b off e=>Nat.ne_of_lt (L1.out.lt p (b:=b) (off:=off) e))
          have G4:=Lib.hid (fun (p:0<kq2) b off e=>Nat.ne_of_lt (L2.out.lt p (b:=b) (off:=off) e))
          replace L1:=Lib.hid (L1.out.below ba)
          replace L2:=Lib.hid (L2.out.below ba)
          clear FA ba
          generalize w7.heap.size=bN at *
          generalize World.alloc w7 (.cells #[.bool false, .slice none 0 0, .bool false, .slice none 0 0] 68)=wn at *
          refine hK.out _ _ (⟨(CF11.out _ FF.out.below).1,(CF11.out _ FF.out.below).2.1⟩) (fun hHeld=>?_)
          clear hK
          try simp only[Act.put,Lw.s1,Lw.s2,Lw.s3]
          refine TillSt.nx [10] ?_
          refine NextSt.last rfl (by kernel_rfl) (fun K' hK=>?_) NextSt.nil
          obtain⟨s0,s1,s2,s3⟩:=FF.out.c4 0 rfl
          obtain⟨s4,s5,s6,s7⟩:=FF.out.f4 0 rfl
          clear hHeld
          go_simp
          clear s0 s1 s2 s3 s4 s5 s6 s7
          refine hK.out _ _ ?_
          clear hK
          try simp only[Act.put,Lw.s1,Lw.s2,Lw.s3]
          refine TillSt.tP 11 (fun q=>by cases q) ?_
          refine TillSt.done (by kernel_rfl) ?_ _
          have PQ:=FF.out.put 0 rfl (frV (decide (f11.num<0)) aq kq cq false aq2 kq2 cq2) rfl
          have bb:=below_setCells bN NB.out (frV (decide (f11.num<0)) aq kq cq false aq2 kq2 cq2) 0 _ BB.out
          have nf:=Lib.hid (show NewF _ _ _ f11 (.pointer (some ⟨bN,0,none⟩)) _ from⟨bN,⟨decide (f11.num<0),aq,kq,cq,aq2,kq2,cq2⟩,rfl,Nat.le_trans LO.out NB.out,PQ,⟨rfl,L1.out.setCellsK G3.out 0 (frV (decide (f11.num<0)) aq kq cq false aq2 kq2 cq2),L2.out.setCellsK G4.out 0 (frV (decide (f11.num<0)) aq kq cq false aq2 kq2 cq2),fun b off e=>Nat.le_trans LO.out (G1.out b off e),fun b off e=>Nat.le_trans LO.out (G2.out b off e)⟩,⟨fun p b off e q=>G3.out p b off e (by cases q;rfl),fun p b off e q=>G4.out p b off e (by cases q;rfl)⟩,LB.out.trans (bb.mono LO.out)⟩)
          clear PQ bb FF BB BQ L1 L2 G1 G2 G3 G4 NB
          gi_wp2
          gi_meet
          case rel=>exact⟨nf.out,rfl,rfl⟩
         ·
          clear hHeld
          go_simp
          have FA:=FF.out.alloc (frV false none 0 0 false none 0 0) 68
          have ba:=(Below.refl _ w6).alloc (Nat.le_refl _) (.cells (frV false none 0 0 false none 0 0).toArray 68)
          have NB:=Lib.hid BQ.out
          replace BB:=Lib.hid (BB.out.trans (ba.mono BQ.out))
          replace BQ:=Lib.hid (Nat.le_trans BQ.out ba.size)
          replace FF:=Lib.hid FA
          replace HS:=Lib.hid (HS.out.below ba)
          replace H6:=Lib.hid (H6.out.below ba)
          clear FA ba
          generalize w6.heap.size=bN at *
          generalize World.alloc w6 (.cells #[.bool false, .slice none 0 0, .bool false, .slice none 0 0] 68)=wn at *
          refine hK.out _ _ (⟨(CF11.out _ FF.out.below).1,(CF11.out _ FF.out.below).2.1⟩) (fun hHeld=>?_)
          clear hK
          try simp only[Act.put,Lw.s1,Lw.s2,Lw.s3]
          refine TillSt.nx [5] ?_
          refine NextSt.cons rfl (fun K' hK=>?_) NextSt.nil
          clear hHeld
          go_simp
          refine(MK.out _ V6 _ (wide0 HS.out) H6.out).mono ?_
          rintro e w7 ⟨V,rfl,⟨aq,kq,cq,aq2,kq2,cq2,rfl,l1,l2,f1,f2⟩,hb⟩
          have fq:=(FF.out.least 0 rfl).2
          have G1:=Lib.hid (fun b off e=>Nat.le_trans BQ.out (f1 b off e))
          have G2:=Lib.hid (fun b off e=>Nat.le_trans BQ.out (f2 b off e))
          have G3:=Lib.hid (fun (_:0<kq) b off e=>(Nat.ne_of_lt (Nat.lt_of_lt_of_le fq (f1 b off e))).symm)
          have G4:=Lib.hid (fun (_:0<kq2) b off e=>(Nat.ne_of_lt (Nat.lt_of_lt_of_le fq (f2 b off e))).symm)
          clear fq
          replace FF:=Lib.hid (FF.out.call hb)
          replace BB:=Lib.hid (BB.out.trans (hb.mono BQ.out))
          replace BQ:=Lib.hid (Nat.le_trans BQ.out hb.size)
          have L1:=Lib.hid l1
          have L2:=Lib.hid l2
          clear l1 l2 f1 f2 hb H6 HS
          refine hK.out _ _ (⟨(CF11.out _ FF.out.below).1,(CF11.out _ FF.out.below).2.1⟩) (fun hHeld=>?_)
          clear hK
          try simp only[Act.put,Lw.s1,Lw.s2,Lw.s3]
          refine TillSt.tP 6 (fun _=>hHeld) ?_
          refine TillSt.tP 7 (fun _=>hHeld) ?_
          refine TillSt.tP 8 (fun _=>hHeld) ?_
          refine TillSt.nx [10] ?_
          refine NextSt.last rfl (by kernel_rfl) (fun K' hK=>?_) NextSt.nil
          obtain⟨s0,s1,s2,s3⟩:=FF.out.c4 0 rfl
          obtain⟨s4,s5,s6,s7⟩:=FF.out.f4 0 rfl
          clear hHeld
          go_simp
          clear s0 s1 s2 s3 s4 s5 s6 s7
          refine hK.out _ _ ?_
          clear hK
          try simp only[Act.put,Lw.s1,Lw.s2,Lw.s3]
          refine TillSt.tP 11 (fun q=>by cases q) ?_
          refine TillSt.done (by kernel_rfl) ?_ _
          have PQ:=FF.out.put 0 rfl (frV (decide (f11.num<0)) aq kq cq false aq2 kq2 cq2) rfl
          have bb:=below_setCells bN NB.out (frV (decide (f11.num<0)) aq kq cq false aq2 kq2 cq2) 0 _ BB.out
          have nf:=Lib.hid (show NewF _ _ _ f11 (.pointer (some ⟨bN,0,none⟩)) _ from⟨bN,⟨decide (f11.num<0),aq,kq,cq,aq2,kq2,cq2⟩,rfl,Nat.le_trans LO.out NB.out,PQ,⟨rfl,L1.out.setCellsK G3.out 0 (frV (decide (f11.num<0)) aq kq cq false aq2 kq2 cq2),L2.out.setCellsK G4.out 0 (frV (decide (f11.num<0)) aq kq cq false aq2 kq2 cq2),fun b off e=>Nat.le_trans LO.out (G1.out b off e),fun b off e=>Nat.le_trans LO.out (G2.out b off e)⟩,⟨fun p b off e q=>G3.out p b off e (by cases q;rfl),fun p b off e q=>G4.out p b off e (by cases q;rfl)⟩,LB.out.trans (bb.mono LO.out)⟩)
          clear PQ bb FF BB BQ L1 L2 G1 G2 G3 G4 NB
          gi_wp2
          gi_meet
          case rel=>exact⟨nf.out,rfl,rfl⟩
        ·
         clear hHeld
         go_simp
         have FA:=FF.out.alloc (frV false none 0 0 false none 0 0) 68
         have ba:=(Below.refl _ wd).alloc (Nat.le_refl _) (.cells (frV false none 0 0 false none 0 0).toArray 68)
         have NB:=Lib.hid BQ.out
         replace BB:=Lib.hid (BB.out.trans (ba.mono BQ.out))
         replace BQ:=Lib.hid (Nat.le_trans BQ.out ba.size)
         replace FF:=Lib.hid FA
         replace HS:=Lib.hid (HS.out.below ba)
         clear FA ba
         generalize wd.heap.size=bN at *
         generalize World.alloc wd (.cells #[.bool false, .slice none 0 0, .bool false, .slice none 0 0] 68)=wn at *
         refine hK.out _ _ (⟨(CF11.out _ FF.out.below).1,(CF11.out _ FF.out.below).2.1⟩) (fun hHeld=>?_)
         clear hK
         try simp only[Act.put,Lw.s1,Lw.s2,Lw.s3]
         refine TillSt.nx [4] ?_
         refine NextSt.cons rfl (fun K' hK=>?_) NextSt.nil
         clear hHeld
         go_simp
         refine(from_walk 1 _ (by decide) (by decide)).mono ?_
         rintro e w6 ⟨V6,rfl,hV,hb⟩
         replace FF:=Lib.hid (FF.out.call hb)
         replace HS:=Lib.hid (HS.out.below hb)
         replace BB:=Lib.hid (BB.out.trans (hb.mono BQ.out))
         replace BQ:=Lib.hid (Nat.le_trans BQ.out hb.size)
         have H6:=Lib.hid (show Wide 0 w6 V6 ((1:Nat):Int) from hV.mono (Nat.zero_le _))
         clear hV hb
         refine hK.out _ _ (⟨(CF11.out _ FF.out.below).1,(CF11.out _ FF.out.below).2.1⟩) (fun hHeld=>?_)
         clear hK
         try simp only[Act.put,Lw.s1,Lw.s2,Lw.s3]
         refine TillSt.nx [5] ?_
         refine NextSt.cons rfl (fun K' hK=>?_) NextSt.nil
         clear hHeld
         go_simp
         refine(MK.out _ V6 _ (wide0 HS.out) H6.out).mono ?_
         rintro e w7 ⟨V,rfl,⟨aq,kq,cq,aq2,kq2,cq2,rfl,l1,l2,f1,f2⟩,hb⟩
         have fq:=(FF.out.least 0 rfl).2
         have G1:=Lib.hid (fun b off e=>Nat.le_trans BQ.out (f1 b off e))
         have G2:=Lib.hid (fun b off e=>Nat.le_trans BQ.out (f2 b off e))
         have G3:=Lib.hid (fun (_:0<kq) b off e=>(Nat.ne_of_lt (Nat.lt_of_lt_of_le fq (f1 b off e))).symm)
         have G4:=Lib.hid (fun (_:0<kq2) b off e=>(Nat.ne_of_lt (Nat.lt_of_lt_of_le fq (f2 b off e))).symm)
         clear fq
         replace FF:=Lib.hid (FF.out.call hb)
         replace BB:=Lib.hid (BB.out.trans (hb.mono BQ.out))
         replace BQ:=Lib.hid (Nat.le_trans BQ.out hb.size)
         have L1:=Lib.hid l1
         have L2:=Lib.hid l2
         clear l1 l2 f1 f2 hb H6 HS
         refine hK.out _ _ (⟨(CF11.out _ FF.out.below).1,(CF11.out _ FF.out.below).2.1⟩) (fun hHeld=>?_)
         clear hK
         try simp only[Act.put,Lw.s1,Lw.s2,Lw.s3]
         refine TillSt.tP 6 (fun _=>hHeld) ?_
         refine TillSt.tP 7 (fun _=>hHeld) ?_
         refine TillSt.tP 8 (fun _=>hHeld) ?_
         refine TillSt.nx [10] ?_
         refine NextSt.last rfl (by kernel_rfl) (fun K' hK=>?_) NextSt.nil
         obtain⟨s0,s1,s2,s3⟩:=FF.out.c4 0 rfl
         obtain⟨s4,s5,s6,s7⟩:=FF.out.f4 0 rfl
         clear hHeld
         go_simp
         clear s0 s1 s2 s3 s4 s5 s6 s7
         refine hK.out _ _ ?_
         clear hK
         try simp only[Act.put,Lw.s1,Lw.s2,Lw.s3]
         refine TillSt.tP 11 (fun q=>by cases q) ?_
         refine TillSt.done (by kernel_rfl) ?_ _
         have PQ:=FF.out.put 0 rfl (frV (decide (f11.num<0)) aq kq cq false aq2 kq2 cq2) rfl
         have bb:=below_setCells bN NB.out (frV (decide (f11.num<0)) aq kq cq false aq2 kq2 cq2) 0 _ BB.out
         have nf:=Lib.hid (show NewF _ _ _ f11 (.pointer (some ⟨bN,0,none⟩)) _ from⟨bN,⟨decide (f11.num<0),aq,kq,cq,aq2,kq2,cq2⟩,rfl,Nat.le_trans LO.out NB.out,PQ,⟨rfl,L1.out.setCellsK G3.out 0 (frV (decide (f11.num<0)) aq kq cq false aq2 kq2 cq2),L2.out.setCellsK G4.out 0 (frV (decide (f11.num<0)) aq kq cq false aq2 kq2 cq2),fun b off e=>Nat.le_trans LO.out (G1.out b off e),fun b off e=>Nat.le_trans LO.out (G2.out b off e)⟩,⟨fun p b off e q=>G3.out p b off e (by cases q;rfl),fun p b off e q=>G4.out p b off e (by cases q;rfl)⟩,LB.out.trans (bb.mono LO.out)⟩)
         clear PQ bb FF BB BQ L1 L2 G1 G2 G3 G4 NB
         gi_wp2
         gi_meet
         case rel=>exact⟨nf.out,rfl,rfl⟩
       case rest =>
        obtain⟨⟨b2,y2,rfl,hbl2,hF,hy2,ho2,hb2⟩,rfl,rfl⟩:=hcut
        have HA:=Lib.hid (fdiv_any _ _ sv f11 _ ((HY.out.below hb2).frac.mono (Nat.zero_le _)) (hy2.frac.mono (Nat.zero_le _)) FLS.out (FL11.out.mono (by decide)) POS.out)
        rw[XE.out] at HA
        clear hbl2 hy2 ho2 hb2 HY FY FQ
        obtain⟨a0,a1,a2,a3⟩:=hF.c4 0 rfl
        obtain⟨c0,c1,c2,c3⟩:=hF.c4 1 rfl
        have FF:=Lib.hid hF
        clear hF
        gi_wp2_with (refine⟨trivial,?_⟩;gi_at_call 180;refine(CallsIn.inRound l (callsIn_wide.2 HA.out)).mono ?_;rintro e w6 ⟨V6,rfl,hV,hb6⟩;obtain⟨y6,rfl,hy6⟩:=hV.cells;have F6:=FF.out.call hb6;have lob:=(FF.out.least 1 rfl).2;obtain⟨g0,g1,g2,g3⟩:=F6.c4 1 rfl;obtain⟨f0,f1,f2,f3⟩:=F6.f4 1 rfl;have F7:=Lib.hid (F6.put 1 rfl (fcE y6) rfl);have loW:=FF.out.below.size;have H6:=Lib.hid (show FcR (w6.setCells b 0 (fcE y6)) W.heap.size y6 x1 from⟨hy6.s,hy6.n.setCells (fun c off e=>by have:=hy6.fn c off e;omega) 0 _,hy6.d.setCells (fun c off e=>by have:=hy6.fd c off e;omega) 0 _,fun c off e=>Nat.le_trans loW (hy6.fn c off e),fun c off e=>Nat.le_trans loW (hy6.fd c off e)⟩);clear hV hb6 F6 hy6 lob loW FF HA a0 a1 a2 a3 c0 c1 c2 c3)
        clear g0 g1 g2 g3 f0 f1 f2 f3
        have FY:=Lib.hid F7.out.tail
        have HY:=H6
        clear F7 H6
        obtain⟨ws,hws⟩:∃ x,x=w6.setCells b 0 (fcE y6):=⟨_,rfl⟩
        have e8:((((w6.setCell ⟨b,0,none⟩ (.bool y6.s)).setCell ⟨b,1,none⟩ (.slice y6.a y6.k y6.c)).setCell ⟨b,2,none⟩ (.bool false)).setCell ⟨b,3,none⟩ (.slice y6.a' y6.k' y6.c'))=ws:=hws.symm
        rw[e8]
        have T:=Lib.hid (show Fr W [(b,fcE y6)] ws.drew from by rw[hws];exact FY.out.drew)
        have HQ:=Lib.hid (show FcR ws.drew W.heap.size y6 x1 from by rw[hws];exact HY.out.below (Below.refl _ _).drew)
        clear e8 hws FY HY
        refine TillSt.startIn (fun w'=>(w'.cell? ⟨w4.heap.size+1,0,none⟩=some (.slice (some ⟨w4.heap.size,0,none⟩) 2 2)∧w'.cell? ⟨w4.heap.size,1,none⟩=some (.slice none 0 0))∧(w'.cell? ⟨b,0,none⟩=some (.bool y6.s)∧w'.cell? ⟨b,1,none⟩=some (.slice y6.a y6.k y6.c)∧w'.cell? ⟨b,2,none⟩=some (.bool false)∧w'.cell? ⟨b,3,none⟩=some (.slice y6.a' y6.k' y6.c'))) 10 (by kernel_rfl) (by kernel_rfl) (fun h=>by obtain⟨_,_,h⟩:=h;exact nomatch h.1) (⟨⟨TB.out _ T.out.below,(FB.out _ T.out.below).cell 2 1 rfl rfl⟩,T.out.cell 0 0 rfl rfl,T.out.cell 0 1 rfl rfl,T.out.cell 0 2 rfl rfl,T.out.cell 0 3 rfl rfl⟩) (fun hHeld=>?_)
        generalize ws.drew=wd at *
        refine TillSt.tL 0 hHeld (hy:=Or.inl ⟨by rfl,by intro w hSw;obtain⟨⟨q1, -⟩, -⟩:=hSw;go_simp;try with_reducible rfl⟩) (h:=?_)
        refine TillSt.tP 1 (fun _=>hHeld) ?_
        refine TillSt.tL 2 hHeld (hy:=Or.inl ⟨by rfl,by intro w hSw;obtain⟨⟨q1, -⟩, -⟩:=hSw;go_simp;try with_reducible rfl⟩) (h:=?_)
        refine TillSt.tP 3 (fun _=>hHeld) ?_
        refine TillSt.tP 4 (fun _=>hHeld) ?_
        refine TillSt.tL 5 hHeld (hy:=Or.inl ⟨by rfl,by intro w hSw;obtain⟨⟨-,q2⟩, -⟩:=hSw;go_simp;try with_reducible rfl⟩) (h:=?_)
        refine TillSt.tL 6 hHeld (hy:=Or.inl ⟨by rfl,by intro w hSw;obtain⟨-,q1,q2,q3,q4⟩:=hSw;go_simp;try with_reducible rfl⟩) (h:=?_)
        refine TillSt.nx [7] ?_
        refine NextSt.cons rfl (fun K' hK=>?_) NextSt.nil
        clear hHeld
        go_simp
        have ba:=(Below.refl _ wd).alloc (Nat.le_refl _) (.cells (fcE y6).toArray 68)
        have T0:=T
        replace T:=Lib.hid (T.out.call ba)
        clear ba
        refine hK.out _ _ (⟨⟨TB.out _ T.out.below,(FB.out _ T.out.below).cell 2 1 rfl rfl⟩,T.out.cell 0 0 rfl rfl,T.out.cell 0 1 rfl rfl,T.out.cell 0 2 rfl rfl,T.out.cell 0 3 rfl rfl⟩) (fun hHeld=>?_)
        clear hK
        try simp only[Act.put,Lw.s1,Lw.s2,Lw.s3]
        refine TillSt.nx [8] ?_
        refine NextSt.cons rfl (fun K' hK=>?_) NextSt.nil
        clear hHeld
        refine step_rowF1 wd rfl (.tmp 116) (.tmp 118) (by rfl) W.heap.size y6 x1 (by rfl) (by rfl) T0.out.below.size HQ.out ?_
        intro Av cv w9 hR hb9
        replace T:=Lib.hid (T0.out.call hb9)
        have HR:=Lib.hid hR
        clear hR hb9 T0 HQ
        refine hK.out _ _ (⟨⟨TB.out _ T.out.below,(FB.out _ T.out.below).cell 2 1 rfl rfl⟩,T.out.cell 0 0 rfl rfl,T.out.cell 0 1 rfl rfl,T.out.cell 0 2 rfl rfl,T.out.cell 0 3 rfl rfl⟩) (fun hHeld=>?_)
        clear hK
        try simp only[Act.put,Lw.s1,Lw.s2,Lw.s3]
        refine TillSt.tP 9 (fun _=>hHeld) ?_
        refine TillSt.nx [10] ?_
        refine NextSt.last rfl (by kernel_rfl) (fun K' hK=>?_) NextSt.nil
        have s0:=(FB.out _ T.out.below).cell 2 1 rfl rfl
        have s1:=(FB.out _ T.out.below).fz 2 1 rfl rfl
        clear hHeld
        go_simp
        clear s0 s1
        refine hK.out _ _ ?_
        clear hK
        try simp only[Act.put,Lw.s1,Lw.s2,Lw.s3]
        refine TillSt.done (by kernel_rfl) ?_ _
        have fin:=Lib.hid (ST'.out w9 (.slice Av 1 cv) T.out.below HR.out)
        clear T HR
        have st:Hid (OutI w4 w4.heap.size g c (w4.heap.size+3) x0 x1 (0+1) _∧KeepB w4.heap.size (w4.heap.size+1+1) W _∧KeepsFrom w7.heap.size W _):=Lib.hid ⟨fin.out.1,fin.out.2.1,fin.out.2.2 _ hbo.out⟩
        clear fin
        gi_wp2
        go_roundw
        case rel=>exact Or.inr ⟨rfl,st⟩
        case measure=>simp[intOf]
    ·gi_wp2
     exact⟨hfin.out.2.1,hfin.out.1,hfin.out.2.2⟩
  ·
   have hs:=(hF.least 0 rfl).2
   have e0:=q0 (by omega)
   subst e0
   obtain⟨gx,cx,xr,ex, -,ltx,rx,fx, -⟩:=(p1 (by omega)).one
   subst ex
   have XC:=Lib.hid (fun w' (hb:Below W.heap.size W w')=>(show w'.rangeAt gx 0 (fcE xr)∧FcR w' (w4.heap.size+3) xr x1 from⟨rangeAt_below rx hb ltx,fx.below hb⟩))
   clear ltx rx fx
   rw[show ((1-1:Nat):Int)=0 from rfl,show (1-1:Nat)=0 from rfl]
   have NB:=Lib.hid (fun w' (hb:Below W.heap.size W w')=>((below_then hF.below hb).cell (p:=⟨w.heap.size,0,none⟩) b0).trans k0)
   have TB:=Lib.hid (fun w' (hb:Below W.heap.size W w')=>(hF.call hb).cell 1 0 rfl rfl)
   have FB:=Lib.hid (fun w' (hb:Below W.heap.size W w')=>hF.call hb)
   have ST':=Lib.hid (fun (w':World) (v':Value) (hb:Below W.heap.size W w') (hv:RowF w' W.heap.size v' [x0])=>ST.out w' v' hb hv)
   clear ST
   obtain⟨xa02,xk02,xc02,hc02⟩:=RE.at hF.below 0 2 (by omega) (by omega)
   obtain⟨z02,hz02⟩:∃ z,z=rowsZ [n,s1,y0] [t1*n-t1*n,s2*n-t1*s1,y1*n-t1*y0] 0 2:=⟨_,rfl⟩
   rw[← hz02] at hc02
   have CF02:=Lib.hid hc02
   replace hz02:z02=y0:=hz02
   obtain⟨f02,hf02⟩:∃ q:Rat,q=(z02:Rat):=⟨_,rfl⟩
   have ll02:(canon z02.natAbs).length≤50:=by rw[hz02];exact LLL.out _ (by simp)
   have MKK02:=Lib.hid (fun V1 V2 w' (h1:Wide 0 w' V1 z02) (h2:Wide 0 w' V2 ((1:Nat):Int))=>make_any V1 V2 z02 1 w' h1 h2 (by decide) (Nat.le_trans ll02 (by decide)) (Nat.le_trans (canon_len 1 1 (by decide)) (by decide)))
   rw[Rat.mkRat_one z02,← hf02] at MKK02
   have FL02:FL f02 50:=by rw[hf02];exact FL.int ll02 (by decide)
   replace FL02:=Lib.hid FL02
   replace hf02:=Lib.hid hf02
   replace hz02:=Lib.hid hz02
   clear hc02 ll02
   obtain⟨xa01,xk01,xc01,hc01⟩:=RE.at hF.below 0 1 (by omega) (by omega)
   obtain⟨z01,hz01⟩:∃ z,z=rowsZ [n,s1,y0] [t1*n-t1*n,s2*n-t1*s1,y1*n-t1*y0] 0 1:=⟨_,rfl⟩
   rw[← hz01] at hc01
   have CF01:=Lib.hid hc01
   replace hz01:z01=s1:=hz01
   obtain⟨f01,hf01⟩:∃ q:Rat,q=(z01:Rat):=⟨_,rfl⟩
   have ll01:(canon z01.natAbs).length≤50:=by rw[hz01];exact LLL.out _ (by simp)
   have MKK01:=Lib.hid (fun V1 V2 w' (h1:Wide 0 w' V1 z01) (h2:Wide 0 w' V2 ((1:Nat):Int))=>make_any V1 V2 z01 1 w' h1 h2 (by decide) (Nat.le_trans ll01 (by decide)) (Nat.le_trans (canon_len 1 1 (by decide)) (by decide)))
   rw[Rat.mkRat_one z01,← hf01] at MKK01
   have FL01:FL f01 50:=by rw[hf01];exact FL.int ll01 (by decide)
   replace FL01:=Lib.hid FL01
   replace hf01:=Lib.hid hf01
   replace hz01:=Lib.hid hz01
   clear hc01 ll01
   obtain⟨xa00,xk00,xc00,hc00⟩:=RE.at hF.below 0 0 (by omega) (by omega)
   obtain⟨z00,hz00⟩:∃ z,z=rowsZ [n,s1,y0] [t1*n-t1*n,s2*n-t1*s1,y1*n-t1*y0] 0 0:=⟨_,rfl⟩
   rw[← hz00] at hc00
   have CF00:=Lib.hid hc00
   replace hz00:z00=n:=hz00
   obtain⟨f00,hf00⟩:∃ q:Rat,q=(z00:Rat):=⟨_,rfl⟩
   have ll00:(canon z00.natAbs).length≤50:=by rw[hz00];exact LLL.out _ (by simp)
   have MKK00:=Lib.hid (fun V1 V2 w' (h1:Wide 0 w' V1 z00) (h2:Wide 0 w' V2 ((1:Nat):Int))=>make_any V1 V2 z00 1 w' h1 h2 (by decide) (Nat.le_trans ll00 (by decide)) (Nat.le_trans (canon_len 1 1 (by decide)) (by decide)))
   rw[Rat.mkRat_one z00,← hf00] at MKK00
   have FL00:FL f00 50:=by rw[hf00];exact FL.int ll00 (by decide)
   replace FL00:=Lib.hid FL00
   replace hf00:=Lib.hid hf00
   replace hz00:=Lib.hid hz00
   clear hc00 ll00
   have m0:=NB.out W (Below.refl _ _)
   clear hF q0 q1 p0 p1
   gi_wp2
   clear m0
   gi_loopw [13,14,15,16,17,18,19,20,21,22] (fun kv _ _ _ _ _ _ _ _ _ wr=>(kv = .int .i64 2∧W=wr)∨(kv = .int .i64 3∧Hid (OutI w4 w4.heap.size g c (w4.heap.size+3) x0 x1 (1+1) wr∧KeepB w4.heap.size (w4.heap.size+1+1) W wr∧KeepsFrom w7.heap.size W wr))) (fun kv _ _ _ _ _ _ _ _ _ _=>3-(intOf kv).toNat)
   case atStart=>exact Or.inl ⟨rfl,rfl⟩
   case round =>
    rcases hrel with⟨rfl,hw⟩|⟨rfl,hfin⟩
    ·subst hw
     gi_upto_region 12 with fail
     have FQ:=Lib.hid (Fr.start W)
     gi_cut [14,15,121] from 51 (fun p e z wx=>NewF W [] W f02 p wx∧e = .int .i64 0∧z=undef)
     case first =>
      have FF:=Lib.hid (FQ.out).drew
      obtain⟨B0,hB0⟩:∃ b,b=W.drew.heap.size:=⟨_,rfl⟩
      have LO:=Lib.hid (show W.heap.size≤B0 from by rw[hB0];exact Nat.le_refl _)
      have BB:=Lib.hid (Below.refl B0 W.drew)
      have BQ:=Lib.hid (show B0≤W.drew.heap.size from Nat.le_of_eq hB0)
      have LB:=Lib.hid ((Below.refl W.heap.size W).drew)
      have HS:=Lib.hid ((CF02.out _ FF.out.below).2.2)
      have MK:=Lib.hid (MKK02.out)
      clear hB0
      refine TillSt.startIn (fun w'=>w'.cell? ⟨rowsR r0 r1 0,4,none⟩=some (.bool (decide (z02<0)))∧w'.cell? ⟨rowsR r0 r1 0,5,none⟩=some (.slice xa02 xk02 xc02)) 10 (by kernel_rfl) (by kernel_rfl) (fun h=>by obtain⟨_,_,h⟩:=h;exact nomatch h.1) (⟨(CF02.out _ FF.out.below).1,(CF02.out _ FF.out.below).2.1⟩) (fun hHeld=>?_)
      generalize W.drew=wd at *
      refine TillSt.tP 0 (fun _=>hHeld) ?_
      refine TillSt.tP 1 (fun _=>hHeld) ?_
      refine TillSt.tP 2 (fun _=>hHeld) ?_
      refine TillSt.tL 3 hHeld (hy:=Or.inl ⟨by rfl,by intro w hSw;obtain⟨q1,q2⟩:=hSw;go_simp;try with_reducible rfl⟩) (h:=?_)
      refine TillSt.nx [4,9] ?_
      refine NextSt.cons rfl (fun K' hK=>?_) (NextSt.cons rfl (fun K' hK=>?_) NextSt.nil)
      ·
       clear hHeld
       go_simp
       refine(from_walk 1 _ (by decide) (by decide)).mono ?_
       rintro e w6 ⟨V6,rfl,hV,hb⟩
       replace FF:=Lib.hid (FF.out.call hb)
       replace HS:=Lib.hid (HS.out.below hb)
       replace BB:=Lib.hid (BB.out.trans (hb.mono BQ.out))
       replace BQ:=Lib.hid (Nat.le_trans BQ.out hb.size)
       have H6:=Lib.hid (show Wide 0 w6 V6 ((1:Nat):Int) from hV.mono (Nat.zero_le _))
       clear hV hb
       refine hK.out _ _ (⟨(CF02.out _ FF.out.below).1,(CF02.out _ FF.out.below).2.1⟩) (fun hHeld=>?_)
       clear hK
       try simp only[Act.put,Lw.s1,Lw.s2,Lw.s3]
       refine TillSt.nx [5,9] ?_
       refine NextSt.cons rfl (fun K' hK=>?_) (NextSt.cons rfl (fun K' hK=>?_) NextSt.nil)
       ·
        clear hHeld
        go_simp
        refine(MK.out _ V6 _ (wide0 HS.out) H6.out).mono ?_
        rintro e w7 ⟨V,rfl,⟨aq,kq,cq,aq2,kq2,cq2,rfl,l1,l2,f1,f2⟩,hb⟩
        have G1:=Lib.hid (fun b off e=>Nat.le_trans BQ.out (f1 b off e))
        have G2:=Lib.hid (fun b off e=>Nat.le_trans BQ.out (f2 b off e))
        replace FF:=Lib.hid (FF.out.call hb)
        replace BB:=Lib.hid (BB.out.trans (hb.mono BQ.out))
        replace BQ:=Lib.hid (Nat.le_trans BQ.out hb.size)
        have L1:=Lib.hid l1
        have L2:=Lib.hid l2
        clear l1 l2 f1 f2 hb H6 HS
        refine hK.out _ _ (⟨(CF02.out _ FF.out.below).1,(CF02.out _ FF.out.below).2.1⟩) (fun hHeld=>?_)
        clear hK
        try simp only[Act.put,Lw.s1,Lw.s2,Lw.s3]
        refine TillSt.tP 6 (fun _=>hHeld) ?_
        refine TillSt.tP 7 (fun _=>hHeld) ?_
        refine TillSt.tP 8 (fun _=>hHeld) ?_
        refine TillSt.nx [9] ?_
        refine NextSt.cons rfl (fun K' hK=>?_) NextSt.nil
        clear hHeld
        go_simp
        have FA:=FF.out.alloc (frV false none 0 0 false none 0 0) 68
        have ba:=(Below.refl _ w7).alloc (Nat.le_refl _) (.cells (frV false none 0 0 false none 0 0).toArray 68)
        have NB:=Lib.hid BQ.out
        replace BB:=Lib.hid (BB.out.trans (ba.mono BQ.out))
        replace BQ:=Lib.hid (Nat.le_trans BQ.out ba.size)
        replace FF:=Lib.hid FA
        have G3:=Lib.hid (fun (p:0<kq) b off e=>Nat.ne_of_lt (L1.out.lt p (b:=b) (off:=off) e))
        have G4:=Lib.hid (fun (p:0<kq2) b off e=>Nat.ne_of_lt (L2.out.lt p (b:=b) (off:=off) e))
        replace L1:=Lib.hid (L1.out.below ba)
        replace L2:=Lib.hid (L2.out.below ba)
        clear FA ba
        generalize w7.heap.size=bN at *
        generalize World.alloc w7 (.cells #[.bool false, .slice none 0 0, .bool false, .slice none 0 0] 68)=wn at *
        refine hK.out _ _ (⟨(CF02.out _ FF.out.below).1,(CF02.out _ FF.out.below).2.1⟩) (fun hHeld=>?_)
        clear hK
        try simp only[Act.put,Lw.s1,Lw.s2,Lw.s3]
        refine TillSt.nx [10] ?_
        refine NextSt.last rfl (by kernel_rfl) (fun K' hK=>?_) NextSt.nil
        obtain⟨s0,s1,s2,s3⟩:=FF.out.c4 0 rfl
        obtain⟨s4,s5,s6,s7⟩:=FF.out.f4 0 rfl
        clear hHeld
        go_simp
        clear s0 s1 s2 s3 s4 s5 s6 s7
        refine hK.out _ _ ?_
        clear hK
        try simp only[Act.put,Lw.s1,Lw.s2,Lw.s3]
        refine TillSt.tP 11 (fun q=>by cases q) ?_
        refine TillSt.done (by kernel_rfl) ?_ _
        have PQ:=FF.out.put 0 rfl (frV (decide (f02.num<0)) aq kq cq false aq2 kq2 cq2) rfl
        have bb:=below_setCells bN NB.out (frV (decide (f02.num<0)) aq kq cq false aq2 kq2 cq2) 0 _ BB.out
        have nf:=Lib.hid (show NewF _ _ _ f02 (.pointer (some ⟨bN,0,none⟩)) _ from⟨bN,⟨decide (f02.num<0),aq,kq,cq,aq2,kq2,cq2⟩,rfl,Nat.le_trans LO.out NB.out,PQ,⟨rfl,L1.out.setCellsK G3.out 0 (frV (decide (f02.num<0)) aq kq cq false aq2 kq2 cq2),L2.out.setCellsK G4.out 0 (frV (decide (f02.num<0)) aq kq cq false aq2 kq2 cq2),fun b off e=>Nat.le_trans LO.out (G1.out b off e),fun b off e=>Nat.le_trans LO.out (G2.out b off e)⟩,⟨fun p b off e q=>G3.out p b off e (by cases q;rfl),fun p b off e q=>G4.out p b off e (by cases q;rfl)⟩,LB.out.trans (bb.mono LO.out)⟩)
        clear PQ bb FF BB BQ L1 L2 G1 G2 G3 G4 NB
        gi_wp2
        gi_meet
        case rel=>exact⟨nf.out,rfl,rfl⟩
       ·
        clear hHeld
        go_simp
        have FA:=FF.out.alloc (frV false none 0 0 false none 0 0) 68
        have ba:=(Below.refl _ w6).alloc (Nat.le_refl _) (.cells (frV false none 0 0 false none 0 0).toArray 68)
        have NB:=Lib.hid BQ.out
        replace BB:=Lib.hid (BB.out.trans (ba.mono BQ.out))
        replace BQ:=Lib.hid (Nat.le_trans BQ.out ba.size)
        replace FF:=Lib.hid FA
        replace HS:=Lib.hid (HS.out.below ba)
        replace H6:=Lib.hid (H6.out.below ba)
        clear FA ba
        generalize w6.heap.size=bN at *
        generalize World.alloc w6 (.cells #[.bool false, .slice none 0 0, .bool false, .slice none 0 0] 68)=wn at *
        refine hK.out _ _ (⟨(CF02.out _ FF.out.below).1,(CF02.out _ FF.out.below).2.1⟩) (fun hHeld=>?_)
        clear hK
        try simp only[Act.put,Lw.s1,Lw.s2,Lw.s3]
        refine TillSt.nx [5] ?_
        refine NextSt.cons rfl (fun K' hK=>?_) NextSt.nil
        clear hHeld
        go_simp
        refine(MK.out _ V6 _ (wide0 HS.out) H6.out).mono ?_
        rintro e w7 ⟨V,rfl,⟨aq,kq,cq,aq2,kq2,cq2,rfl,l1,l2,f1,f2⟩,hb⟩
        have fq:=(FF.out.least 0 rfl).2
        have G1:=Lib.hid (fun b off e=>Nat.le_trans BQ.out (f1 b off e))
        have G2:=Lib.hid (fun b off e=>Nat.le_trans BQ.out (f2 b off e))
        have G3:=Lib.hid (fun (_:0<kq) b off e=>(Nat.ne_of_lt (Nat.lt_of_lt_of_le fq (f1 b off e))).symm)
        have G4:=Lib.hid (fun (_:0<kq2) b off e=>(Nat.ne_of_lt (Nat.lt_of_lt_of_le fq (f2 b off e))).symm)
        clear fq
        replace FF:=Lib.hid (FF.out.call hb)
        replace BB:=Lib.hid (BB.out.trans (hb.mono BQ.out))
        replace BQ:=Lib.hid (Nat.le_trans BQ.out hb.size)
        have L1:=Lib.hid l1
        have L2:=Lib.hid l2
        clear l1 l2 f1 f2 hb H6 HS
        refine hK.out _ _ (⟨(CF02.out _ FF.out.below).1,(CF02.out _ FF.out.below).2.1⟩) (fun hHeld=>?_)
        clear hK
        try simp only[Act.put,Lw.s1,Lw.s2,Lw.s3]
        refine TillSt.tP 6 (fun _=>hHeld) ?_
        refine TillSt.tP 7 (fun _=>hHeld) ?_
        refine TillSt.tP 8 (fun _=>hHeld) ?_
        refine TillSt.nx [10] ?_
        refine NextSt.last rfl (by kernel_rfl) (fun K' hK=>?_) NextSt.nil
        obtain⟨s0,s1,s2,s3⟩:=FF.out.c4 0 rfl
        obtain⟨s4,s5,s6,s7⟩:=FF.out.f4 0 rfl
        clear hHeld
        go_simp
        clear s0 s1 s2 s3 s4 s5 s6 s7
        refine hK.out _ _ ?_
        clear hK
        try simp only[Act.put,Lw.s1,Lw.s2,Lw.s3]
        refine TillSt.tP 11 (fun q=>by cases q) ?_
        refine TillSt.done (by kernel_rfl) ?_ _
        have PQ:=FF.out.put 0 rfl (frV (decide (f02.num<0)) aq kq cq false aq2 kq2 cq2) rfl
        have bb:=below_setCells bN NB.out (frV (decide (f02.num<0)) aq kq cq false aq2 kq2 cq2) 0 _ BB.out
        have nf:=Lib.hid (show NewF _ _ _ f02 (.pointer (some ⟨bN,0,none⟩)) _ from⟨bN,⟨decide (f02.num<0),aq,kq,cq,aq2,kq2,cq2⟩,rfl,Nat.le_trans LO.out NB.out,PQ,⟨rfl,L1.out.setCellsK G3.out 0 (frV (decide (f02.num<0)) aq kq cq false aq2 kq2 cq2),L2.out.setCellsK G4.out 0 (frV (decide (f02.num<0)) aq kq cq false aq2 kq2 cq2),fun b off e=>Nat.le_trans LO.out (G1.out b off e),fun b off e=>Nat.le_trans LO.out (G2.out b off e)⟩,⟨fun p b off e q=>G3.out p b off e (by cases q;rfl),fun p b off e q=>G4.out p b off e (by cases q;rfl)⟩,LB.out.trans (bb.mono LO.out)⟩)
        clear PQ bb FF BB BQ L1 L2 G1 G2 G3 G4 NB
        gi_wp2
        gi_meet
        case rel=>exact⟨nf.out,rfl,rfl⟩
      ·
       clear hHeld
       go_simp
       have FA:=FF.out.alloc (frV false none 0 0 false none 0 0) 68
       have ba:=(Below.refl _ wd).alloc (Nat.le_refl _) (.cells (frV false none 0 0 false none 0 0).toArray 68)
       have NB:=Lib.hid BQ.out
       replace BB:=Lib.hid (BB.out.trans (ba.mono BQ.out))
       replace BQ:=Lib.hid (Nat.le_trans BQ.out ba.size)
       replace FF:=Lib.hid FA
       replace HS:=Lib.hid (HS.out.below ba)
       clear FA ba
       generalize wd.heap.size=bN at *
       generalize World.alloc wd (.cells #[.bool false, .slice none 0 0, .bool false, .slice none 0 0] 68)=wn at *
       refine hK.out _ _ (⟨(CF02.out _ FF.out.below).1,(CF02.out _ FF.out.below).2.1⟩) (fun hHeld=>?_)
       clear hK
       try simp only[Act.put,Lw.s1,Lw.s2,Lw.s3]
       refine TillSt.nx [4] ?_
       refine NextSt.cons rfl (fun K' hK=>?_) NextSt.nil
       clear hHeld
       go_simp
       refine(from_walk 1 _ (by decide) (by decide)).mono ?_
       rintro e w6 ⟨V6,rfl,hV,hb⟩
       replace FF:=Lib.hid (FF.out.call hb)
       replace HS:=Lib.hid (HS.out.below hb)
       replace BB:=Lib.hid (BB.out.trans (hb.mono BQ.out))
       replace BQ:=Lib.hid (Nat.le_trans BQ.out hb.size)
       have H6:=Lib.hid (show Wide 0 w6 V6 ((1:Nat):Int) from hV.mono (Nat.zero_le _))
       clear hV hb
       refine hK.out _ _ (⟨(CF02.out _ FF.out.below).1,(CF02.out _ FF.out.below).2.1⟩) (fun hHeld=>?_)
       clear hK
       try simp only[Act.put,Lw.s1,Lw.s2,Lw.s3]
       refine TillSt.nx [5] ?_
       refine NextSt.cons rfl (fun K' hK=>?_) NextSt.nil
       clear hHeld
       go_simp
       refine(MK.out _ V6 _ (wide0 HS.out) H6.out).mono ?_
       rintro e w7 ⟨V,rfl,⟨aq,kq,cq,aq2,kq2,cq2,rfl,l1,l2,f1,f2⟩,hb⟩
       have fq:=(FF.out.least 0 rfl).2
       have G1:=Lib.hid (fun b off e=>Nat.le_trans BQ.out (f1 b off e))
       have G2:=Lib.hid (fun b off e=>Nat.le_trans BQ.out (f2 b off e))
       have G3:=Lib.hid (fun (_:0<kq) b off e=>(Nat.ne_of_lt (Nat.lt_of_lt_of_le fq (f1 b off e))).symm)
       have G4:=Lib.hid (fun (_:0<kq2) b off e=>(Nat.ne_of_lt (Nat.lt_of_lt_of_le fq (f2 b off e))).symm)
       clear fq
       replace FF:=Lib.hid (FF.out.call hb)
       replace BB:=Lib.hid (BB.out.trans (hb.mono BQ.out))
       replace BQ:=Lib.hid (Nat.le_trans BQ.out hb.size)
       have L1:=Lib.hid l1
       have L2:=Lib.hid l2
       clear l1 l2 f1 f2 hb H6 HS
       refine hK.out _ _ (⟨(CF02.out _ FF.out.below).1,(CF02.out _ FF.out.below).2.1⟩) (fun hHeld=>?_)
       clear hK
       try simp only[Act.put,Lw.s1,Lw.s2,Lw.s3]
       refine TillSt.tP 6 (fun _=>hHeld) ?_
       refine TillSt.tP 7 (fun _=>hHeld) ?_
       refine TillSt.tP 8 (fun _=>hHeld) ?_
       refine TillSt.nx [10] ?_
       refine NextSt.last rfl (by kernel_rfl) (fun K' hK=>?_) NextSt.nil
       obtain⟨s0,s1,s2,s3⟩:=FF.out.c4 0 rfl
       obtain⟨s4,s5,s6,s7⟩:=FF.out.f4 0 rfl
       clear hHeld
       go_simp
       clear s0 s1 s2 s3 s4 s5 s6 s7
       refine hK.out _ _ ?_
       clear hK
       try simp only[Act.put,Lw.s1,Lw.s2,Lw.s3]
       refine TillSt.tP 11 (fun q=>by cases q) ?_
       refine TillSt.done (by kernel_rfl) ?_ _
       have PQ:=FF.out.put 0 rfl (frV (decide (f02.num<0)) aq kq cq false aq2 kq2 cq2) rfl
       have bb:=below_setCells bN NB.out (frV (decide (f02.num<0)) aq kq cq false aq2 kq2 cq2) 0 _ BB.out
       have nf:=Lib.hid (show NewF _ _ _ f02 (.pointer (some ⟨bN,0,none⟩)) _ from⟨bN,⟨decide (f02.num<0),aq,kq,cq,aq2,kq2,cq2⟩,rfl,Nat.le_trans LO.out NB.out,PQ,⟨rfl,L1.out.setCellsK G3.out 0 (frV (decide (f02.num<0)) aq kq cq false aq2 kq2 cq2),L2.out.setCellsK G4.out 0 (frV (decide (f02.num<0)) aq kq cq false aq2 kq2 cq2),fun b off e=>Nat.le_trans LO.out (G1.out b off e),fun b off e=>Nat.le_trans LO.out (G2.out b off e)⟩,⟨fun p b off e q=>G3.out p b off e (by cases q;rfl),fun p b off e q=>G4.out p b off e (by cases q;rfl)⟩,LB.out.trans (bb.mono LO.out)⟩)
       clear PQ bb FF BB BQ L1 L2 G1 G2 G3 G4 NB
       gi_wp2
       gi_meet
       case rel=>exact⟨nf.out,rfl,rfl⟩
     case rest =>
      obtain⟨⟨b,y,rfl,hbl,hF12,hy,ho,hb⟩,rfl,rfl⟩:=hcut
      obtain⟨wa,hwa⟩:∃ x,x=wc:=⟨_,rfl⟩
      subst hwa
      have m0:=NB.out _ hF12.below
      have FY0:=Lib.hid hF12
      have HY0:=Lib.hid hy
      obtain⟨pq,hpq⟩:∃ q:Rat,q=f01*x1:=⟨_,rfl⟩
      have FLX:FL x1 100:=by
       rw[E1.out]
       exact(FL.int (LLL.out _ (by simp)) (by decide)).div (FL.int (LLL.out _ (by simp)) (by decide)) (by rw[Rat.num_intCast];exact HD.out)
      have FLP:FL pq 150:=by rw[hpq];exact FL01.out.mul FLX
      have FLS0:FL (f02-pq) 201:=FL02.out.sub FLP
      have MUL:=Lib.hid (fun V1 V2 w' (h1:FracR 0 w' V1 f01) (h2:FracR 0 w' V2 x1)=>fmul_any V1 V2 f01 x1 w' h1 h2 (FL01.out.mono (by decide)) (FLX.mono (by decide)))
      rw[← hpq] at MUL
      replace FLP:=Lib.hid FLP
      replace FLS0:=Lib.hid FLS0
      replace hpq:=Lib.hid hpq
      clear hbl hF12 hy ho hb FLX
      gi_wp2
      clear m0
      gi_loopw [16,17,18,19,20] (fun jv _ _ _ _ wr=>(jv = .int .i64 1∧wa=wr)∨(jv = .int .i64 2∧Hid (∃ y',Fr W [(b,fcE y')] wr∧FcR wr W.heap.size y' (f02-pq)))) (fun jv _ _ _ _ _=>2-(intOf jv).toNat)
      case atStart=>exact Or.inl ⟨rfl,rfl⟩
      case round =>
       rcases hrel with⟨rfl,hw⟩|⟨rfl,hS⟩
       ·subst hw
        have m0:=NB.out _ FY0.out.below
        gi_upto_region 16 with fail
        have FQ:=FY0
        clear m0
        gi_cut [17,18,96,97,98,99,100,101,102,103,104,105,106,107,108,109,110,111,112,113,114,115,116,117,118,119,120,121] from 67 (fun p e z96 z97 z98 z99 z100 z101 z102 z103 z104 z105 z106 z107 z108 z109 z110 z111 z112 z113 z114 z115 z116 z117 z118 z119 z120 z121 wx=>NewF W [(b,fcE y)] wa f01 p wx∧e = .int .i64 0∧z96=u96∧z97=u97∧z98=u98∧z99=u99∧z100=u100∧z101=u101∧z102=u102∧z103=u103∧z104=u104∧z105=u105∧z106=u106∧z107=u107∧z108=u108∧z109=u109∧z110=u110∧z111=u111∧z112=u112∧z113=u113∧z114=u114∧z115=u115∧z116=u116∧z117=u117∧z118=u118∧z119=u119∧z120=u120∧z121=undef)
        case first =>
         have FF:=Lib.hid (FQ.out).drew
         obtain⟨B0,hB0⟩:∃ b,b=wa.drew.heap.size:=⟨_,rfl⟩
         have LO:=Lib.hid (show wa.heap.size≤B0 from by rw[hB0];exact Nat.le_refl _)
         have BB:=Lib.hid (Below.refl B0 wa.drew)
         have BQ:=Lib.hid (show B0≤wa.drew.heap.size from Nat.le_of_eq hB0)
         have LB:=Lib.hid ((Below.refl wa.heap.size wa).drew)
         have HS:=Lib.hid ((CF01.out _ FF.out.below).2.2)
         have MK:=Lib.hid (MKK01.out)
         clear hB0
         refine TillSt.startIn (fun w'=>w'.cell? ⟨rowsR r0 r1 0,2,none⟩=some (.bool (decide (z01<0)))∧w'.cell? ⟨rowsR r0 r1 0,3,none⟩=some (.slice xa01 xk01 xc01)) 10 (by kernel_rfl) (by kernel_rfl) (fun h=>by obtain⟨_,_,h⟩:=h;exact nomatch h.1) (⟨(CF01.out _ FF.out.below).1,(CF01.out _ FF.out.below).2.1⟩) (fun hHeld=>?_)
         generalize wa.drew=wd at *
         refine TillSt.tP 0 (fun _=>hHeld) ?_
         refine TillSt.tP 1 (fun _=>hHeld) ?_
         refine TillSt.tP 2 (fun _=>hHeld) ?_
         refine TillSt.tL 3 hHeld (hy:=Or.inl ⟨by rfl,by intro w hSw;obtain⟨q1,q2⟩:=hSw;go_simp;try with_reducible rfl⟩) (h:=?_)
         refine TillSt.nx [4,9] ?_
         refine NextSt.cons rfl (fun K' hK=>?_) (NextSt.cons rfl (fun K' hK=>?_) NextSt.nil)
         ·
          clear hHeld
          go_simp
          refine(from_walk 1 _ (by decide) (by decide)).mono ?_
          rintro e w6 ⟨V6,rfl,hV,hb⟩
          replace FF:=Lib.hid (FF.out.call hb)
          replace HS:=Lib.hid (HS.out.below hb)
          replace BB:=Lib.hid (BB.out.trans (hb.mono BQ.out))
          replace BQ:=Lib.hid (Nat.le_trans BQ.out hb.size)
          have H6:=Lib.hid (show Wide 0 w6 V6 ((1:Nat):Int) from hV.mono (Nat.zero_le _))
          clear hV hb
          refine hK.out _ _ (⟨(CF01.out _ FF.out.below).1,(CF01.out _ FF.out.below).2.1⟩) (fun hHeld=>?_)
          clear hK
          try simp only[Act.put,Lw.s1,Lw.s2,Lw.s3]
          refine TillSt.nx [5,9] ?_
          refine NextSt.cons rfl (fun K' hK=>?_) (NextSt.cons rfl (fun K' hK=>?_) NextSt.nil)
          ·
           clear hHeld
           go_simp
           refine(MK.out _ V6 _ (wide0 HS.out) H6.out).mono ?_
           rintro e w7 ⟨V,rfl,⟨aq,kq,cq,aq2,kq2,cq2,rfl,l1,l2,f1,f2⟩,hb⟩
           have G1:=Lib.hid (fun b off e=>Nat.le_trans BQ.out (f1 b off e))
           have G2:=Lib.hid (fun b off e=>Nat.le_trans BQ.out (f2 b off e))
           replace FF:=Lib.hid (FF.out.call hb)
           replace BB:=Lib.hid (BB.out.trans (hb.mono BQ.out))
           replace BQ:=Lib.hid (Nat.le_trans BQ.out hb.size)
           have L1:=Lib.hid l1
           have L2:=Lib.hid l2
           clear l1 l2 f1 f2 hb H6 HS
           refine hK.out _ _ (⟨(CF01.out _ FF.out.below).1,(CF01.out _ FF.out.below).2.1⟩) (fun hHeld=>?_)
           clear hK
           try simp only[Act.put,Lw.s1,Lw.s2,Lw.s3]
           refine TillSt.tP 6 (fun _=>hHeld) ?_
           refine TillSt.tP 7 (fun _=>hHeld) ?_
           refine TillSt.tP 8 (fun _=>hHeld) ?_
           refine TillSt.nx [9] ?_
           refine NextSt.cons rfl (fun K' hK=>?_) NextSt.nil
           clear hHeld
           go_simp
           have FA:=FF.out.alloc (frV false none 0 0 false none 0 0) 68
           have ba:=(Below.refl _ w7).alloc (Nat.le_refl _) (.cells (frV false none 0 0 false none 0 0).toArray 68)
           have NB:=Lib.hid BQ.out
           replace BB:=Lib.hid (BB.out.trans (ba.mono BQ.out))
           replace BQ:=Lib.hid (Nat.le_trans BQ.out ba.size)
           replace FF:=Lib.hid FA
           have G3:=Lib.hid (fun (p:0<kq) b off e=>Nat.ne_of_lt (L1.out.lt p (b:=b) (off:=off) e))
           have G4:=Lib.hid (fun (p:0<kq2) b off e=>Nat.ne_of_lt (L2.out.lt p (b:=b) (off:=off) e))
           replace L1:=Lib.hid (L1.out.below ba)
           replace L2:=Lib.hid (L2.out.below ba)
           clear FA ba
           generalize w7.heap.size=bN at *
           generalize World.alloc w7 (.cells #[.bool false, .slice none 0 0, .bool false, .slice none 0 0] 68)=wn at *
           refine hK.out _ _ (⟨(CF01.out _ FF.out.below).1,(CF01.out _ FF.out.below).2.1⟩) (fun hHeld=>?_)
           clear hK
           try simp only[Act.put,Lw.s1,Lw.s2,Lw.s3]
           refine TillSt.nx [10] ?_
           refine NextSt.last rfl (by kernel_rfl) (fun K' hK=>?_) NextSt.nil
           obtain⟨s0,s1,s2,s3⟩:=FF.out.c4 0 rfl
           obtain⟨s4,s5,s6,s7⟩:=FF.out.f4 0 rfl
           clear hHeld
           go_simp
           clear s0 s1 s2 s3 s4 s5 s6 s7
           refine hK.out _ _ ?_
           clear hK
           try simp only[Act.put,Lw.s1,Lw.s2,Lw.s3]
           refine TillSt.tP 11 (fun q=>by cases q) ?_
           refine TillSt.done (by kernel_rfl) ?_ _
           have PQ:=FF.out.put 0 rfl (frV (decide (f01.num<0)) aq kq cq false aq2 kq2 cq2) rfl
           have bb:=below_setCells bN NB.out (frV (decide (f01.num<0)) aq kq cq false aq2 kq2 cq2) 0 _ BB.out
           have nf:=Lib.hid (show NewF _ _ _ f01 (.pointer (some ⟨bN,0,none⟩)) _ from⟨bN,⟨decide (f01.num<0),aq,kq,cq,aq2,kq2,cq2⟩,rfl,Nat.le_trans LO.out NB.out,PQ,⟨rfl,L1.out.setCellsK G3.out 0 (frV (decide (f01.num<0)) aq kq cq false aq2 kq2 cq2),L2.out.setCellsK G4.out 0 (frV (decide (f01.num<0)) aq kq cq false aq2 kq2 cq2),fun b off e=>Nat.le_trans LO.out (G1.out b off e),fun b off e=>Nat.le_trans LO.out (G2.out b off e)⟩,⟨fun p b off e q=>G3.out p b off e (by cases q;rfl),fun p b off e q=>G4.out p b off e (by cases q;rfl)⟩,LB.out.trans (bb.mono LO.out)⟩)
           clear PQ bb FF BB BQ L1 L2 G1 G2 G3 G4 NB
           gi_wp2
           gi_meet
           case rel=>exact⟨nf.out,rfl,rfl,rfl,rfl,rfl,rfl,rfl,rfl,rfl,rfl,rfl,rfl,rfl,rfl,rfl,rfl,rfl,rfl,rfl,rfl,rfl,rfl,rfl,rfl,rfl,rfl,rfl⟩
          ·
           clear hHeld
           go_simp
           have FA:=FF.out.alloc (frV false none 0 0 false none 0 0) 68
           have ba:=(Below.refl _ w6).alloc (Nat.le_refl _) (.cells (frV false none 0 0 false none 0 0).toArray 68)
           have NB:=Lib.hid BQ.out
           replace BB:=Lib.hid (BB.out.trans (ba.mono BQ.out))
           replace BQ:=Lib.hid (Nat.le_trans BQ.out ba.size)
           replace FF:=Lib.hid FA
           replace HS:=Lib.hid (HS.out.below ba)
           replace H6:=Lib.hid (H6.out.below ba)
           clear FA ba
           generalize w6.heap.size=bN at *
           generalize World.alloc w6 (.cells #[.bool false, .slice none 0 0, .bool false, .slice none 0 0] 68)=wn at *
           refine hK.out _ _ (⟨(CF01.out _ FF.out.below).1,(CF01.out _ FF.out.below).2.1⟩) (fun hHeld=>?_)
           clear hK
           try simp only[Act.put,Lw.s1,Lw.s2,Lw.s3]
           refine TillSt.nx [5] ?_
           refine NextSt.cons rfl (fun K' hK=>?_) NextSt.nil
           clear hHeld
           go_simp
           refine(MK.out _ V6 _ (wide0 HS.out) H6.out).mono ?_
           rintro e w7 ⟨V,rfl,⟨aq,kq,cq,aq2,kq2,cq2,rfl,l1,l2,f1,f2⟩,hb⟩
           have fq:=(FF.out.least 0 rfl).2
           have G1:=Lib.hid (fun b off e=>Nat.le_trans BQ.out (f1 b off e))
           have G2:=Lib.hid (fun b off e=>Nat.le_trans BQ.out (f2 b off e))
           have G3:=Lib.hid (fun (_:0<kq) b off e=>(Nat.ne_of_lt (Nat.lt_of_lt_of_le fq (f1 b off e))).symm)
           have G4:=Lib.hid (fun (_:0<kq2) b off e=>(Nat.ne_of_lt (Nat.lt_of_lt_of_le fq (f2 b off e))).symm)
           clear fq
           replace FF:=Lib.hid (FF.out.call hb)
           replace BB:=Lib.hid (BB.out.trans (hb.mono BQ.out))
           replace BQ:=Lib.hid (Nat.le_trans BQ.out hb.size)
           have L1:=Lib.hid l1
           have L2:=Lib.hid l2
           clear l1 l2 f1 f2 hb H6 HS
           refine hK.out _ _ (⟨(CF01.out _ FF.out.below).1,(CF01.out _ FF.out.below).2.1⟩) (fun hHeld=>?_)
           clear hK
           try simp only[Act.put,Lw.s1,Lw.s2,Lw.s3]
           refine TillSt.tP 6 (fun _=>hHeld) ?_
           refine TillSt.tP 7 (fun _=>hHeld) ?_
           refine TillSt.tP 8 (fun _=>hHeld) ?_
           refine TillSt.nx [10] ?_
           refine NextSt.last rfl (by kernel_rfl) (fun K' hK=>?_) NextSt.nil
           obtain⟨s0,s1,s2,s3⟩:=FF.out.c4 0 rfl
           obtain⟨s4,s5,s6,s7⟩:=FF.out.f4 0 rfl
           clear hHeld
           go_simp
           clear s0 s1 s2 s3 s4 s5 s6 s7
           refine hK.out _ _ ?_
           clear hK
           try simp only[Act.put,Lw.s1,Lw.s2,Lw.s3]
           refine TillSt.tP 11 (fun q=>by cases q) ?_
           refine TillSt.done (by kernel_rfl) ?_ _
           have PQ:=FF.out.put 0 rfl (frV (decide (f01.num<0)) aq kq cq false aq2 kq2 cq2) rfl
           have bb:=below_setCells bN NB.out (frV (decide (f01.num<0)) aq kq cq false aq2 kq2 cq2) 0 _ BB.out
           have nf:=Lib.hid (show NewF _ _ _ f01 (.pointer (some ⟨bN,0,none⟩)) _ from⟨bN,⟨decide (f01.num<0),aq,kq,cq,aq2,kq2,cq2⟩,rfl,Nat.le_trans LO.out NB.out,PQ,⟨rfl,L1.out.setCellsK G3.out 0 (frV (decide (f01.num<0)) aq kq cq false aq2 kq2 cq2),L2.out.setCellsK G4.out 0 (frV (decide (f01.num<0)) aq kq cq false aq2 kq2 cq2),fun b off e=>Nat.le_trans LO.out (G1.out b off e),fun b off e=>Nat.le_trans LO.out (G2.out b off e)⟩,⟨fun p b off e q=>G3.out p b off e (by cases q;rfl),fun p b off e q=>G4.out p b off e (by cases q;rfl)⟩,LB.out.trans (bb.mono LO.out)⟩)
           clear PQ bb FF BB BQ L1 L2 G1 G2 G3 G4 NB
           gi_wp2
           gi_meet
           case rel=>exact⟨nf.out,rfl,rfl,rfl,rfl,rfl,rfl,rfl,rfl,rfl,rfl,rfl,rfl,rfl,rfl,rfl,rfl,rfl,rfl,rfl,rfl,rfl,rfl,rfl,rfl,rfl,rfl,rfl⟩
         ·
          clear hHeld
          go_simp
          have FA:=FF.out.alloc (frV false none 0 0 false none 0 0) 68
          have ba:=(Below.refl _ wd).alloc (Nat.le_refl _) (.cells (frV false none 0 0 false none 0 0).toArray 68)
          have NB:=Lib.hid BQ.out
          replace BB:=Lib.hid (BB.out.trans (ba.mono BQ.out))
          replace BQ:=Lib.hid (Nat.le_trans BQ.out ba.size)
          replace FF:=Lib.hid FA
          replace HS:=Lib.hid (HS.out.below ba)
          clear FA ba
          generalize wd.heap.size=bN at *
          generalize World.alloc wd (.cells #[.bool false, .slice none 0 0, .bool false, .slice none 0 0] 68)=wn at *
          refine hK.out _ _ (⟨(CF01.out _ FF.out.below).1,(CF01.out _ FF.out.below).2.1⟩) (fun hHeld=>?_)
          clear hK
          try simp only[Act.put,Lw.s1,Lw.s2,Lw.s3]
          refine TillSt.nx [4] ?_
          refine NextSt.cons rfl (fun K' hK=>?_) NextSt.nil
          clear hHeld
          go_simp
          refine(from_walk 1 _ (by decide) (by decide)).mono ?_
          rintro e w6 ⟨V6,rfl,hV,hb⟩
          replace FF:=Lib.hid (FF.out.call hb)
          replace HS:=Lib.hid (HS.out.below hb)
          replace BB:=Lib.hid (BB.out.trans (hb.mono BQ.out))
          replace BQ:=Lib.hid (Nat.le_trans BQ.out hb.size)
          have H6:=Lib.hid (show Wide 0 w6 V6 ((1:Nat):Int) from hV.mono (Nat.zero_le _))
          clear hV hb
          refine hK.out _ _ (⟨(CF01.out _ FF.out.below).1,(CF01.out _ FF.out.below).2.1⟩) (fun hHeld=>?_)
          clear hK
          try simp only[Act.put,Lw.s1,Lw.s2,Lw.s3]
          refine TillSt.nx [5] ?_
          refine NextSt.cons rfl (fun K' hK=>?_) NextSt.nil
          clear hHeld
          go_simp
          refine(MK.out _ V6 _ (wide0 HS.out) H6.out).mono ?_
          rintro e w7 ⟨V,rfl,⟨aq,kq,cq,aq2,kq2,cq2,rfl,l1,l2,f1,f2⟩,hb⟩
          have fq:=(FF.out.least 0 rfl).2
          have G1:=Lib.hid (fun b off e=>Nat.le_trans BQ.out (f1 b off e))
          have G2:=Lib.hid (fun b off e=>Nat.le_trans BQ.out (f2 b off e))
          have G3:=Lib.hid (fun (_:0<kq) b off e=>(Nat.ne_of_lt (Nat.lt_of_lt_of_le fq (f1 b off e))).symm)
          have G4:=Lib.hid (fun (_:0<kq2) b off e=>(Nat.ne_of_lt (Nat.lt_of_lt_of_le fq (f2 b off e))).symm)
          clear fq
          replace FF:=Lib.hid (FF.out.call hb)
          replace BB:=Lib.hid (BB.out.trans (hb.mono BQ.out))
          replace BQ:=Lib.hid (Nat.le_trans BQ.out hb.size)
          have L1:=Lib.hid l1
          have L2:=Lib.hid l2
          clear l1 l2 f1 f2 hb H6 HS
          refine hK.out _ _ (⟨(CF01.out _ FF.out.below).1,(CF01.out _ FF.out.below).2.1⟩) (fun hHeld=>?_)
          clear hK
          try simp only[Act.put,Lw.s1,Lw.s2,Lw.s3]
          refine TillSt.tP 6 (fun _=>hHeld) ?_
          refine TillSt.tP 7 (fun _=>hHeld) ?_
          refine TillSt.tP 8 (fun _=>hHeld) ?_
          refine TillSt.nx [10] ?_
          refine NextSt.last rfl (by kernel_rfl) (fun K' hK=>?_) NextSt.nil
          obtain⟨s0,s1,s2,s3⟩:=FF.out.c4 0 rfl
          obtain⟨s4,s5,s6,s7⟩:=FF.out.f4 0 rfl
          clear hHeld
          go_simp
          clear s0 s1 s2 s3 s4 s5 s6 s7
          refine hK.out _ _ ?_
          clear hK
          try simp only[Act.put,Lw.s1,Lw.s2,Lw.s3]
          refine TillSt.tP 11 (fun q=>by cases q) ?_
          refine TillSt.done (by kernel_rfl) ?_ _
          have PQ:=FF.out.put 0 rfl (frV (decide (f01.num<0)) aq kq cq false aq2 kq2 cq2) rfl
          have bb:=below_setCells bN NB.out (frV (decide (f01.num<0)) aq kq cq false aq2 kq2 cq2) 0 _ BB.out
          have nf:=Lib.hid (show NewF _ _ _ f01 (.pointer (some ⟨bN,0,none⟩)) _ from⟨bN,⟨decide (f01.num<0),aq,kq,cq,aq2,kq2,cq2⟩,rfl,Nat.le_trans LO.out NB.out,PQ,⟨rfl,L1.out.setCellsK G3.out 0 (frV (decide (f01.num<0)) aq kq cq false aq2 kq2 cq2),L2.out.setCellsK G4.out 0 (frV (decide (f01.num<0)) aq kq cq false aq2 kq2 cq2),fun b off e=>Nat.le_trans LO.out (G1.out b off e),fun b off e=>Nat.le_trans LO.out (G2.out b off e)⟩,⟨fun p b off e q=>G3.out p b off e (by cases q;rfl),fun p b off e q=>G4.out p b off e (by cases q;rfl)⟩,LB.out.trans (bb.mono LO.out)⟩)
          clear PQ bb FF BB BQ L1 L2 G1 G2 G3 G4 NB
          gi_wp2
          gi_meet
          case rel=>exact⟨nf.out,rfl,rfl,rfl,rfl,rfl,rfl,rfl,rfl,rfl,rfl,rfl,rfl,rfl,rfl,rfl,rfl,rfl,rfl,rfl,rfl,rfl,rfl,rfl,rfl,rfl,rfl,rfl⟩
        case rest =>
         obtain⟨⟨b1,yc,rfl,hbl1,hF16,hy1, -,hb1⟩,rfl,rfl,rfl,rfl,rfl,rfl,rfl,rfl,rfl,rfl,rfl,rfl,rfl,rfl,rfl,rfl,rfl,rfl,rfl,rfl,rfl,rfl,rfl,rfl,rfl,rfl,rfl⟩:=hcut
         obtain⟨wb,hwb⟩:∃ x,x=wc:=⟨_,rfl⟩
         subst hwb
         have F16:=Lib.hid hF16
         have HC:=Lib.hid (hy1.frac.mono (Nat.zero_le _))
         have HY1:=Lib.hid (HY0.out.below hb1)
         clear hbl1 hF16 hy1 hb1 FQ FY0 HY0
         gi_upto_region 17 with fail
         gi_cut [19,20,96,97,98,99,100,101,102,103,104,105,106,107,108,109,110,111,112,113,114,115,116,117,118,119,120,121] from 76 (fun p e z96 z97 z98 z99 z100 z101 z102 z103 z104 z105 z106 z107 z108 z109 z110 z111 z112 z113 z114 z115 z116 z117 z118 z119 z120 z121 wx=>NewF W [(b1,fcE yc),(b,fcE y)] wb pq p wx∧e = .int .i64 0∧z96=u96∧z97=u97∧z98=u98∧z99=u99∧z100=u100∧z101=u101∧z102=u102∧z103=u103∧z104=u104∧z105=u105∧z106=u106∧z107=u107∧z108=u108∧z109=u109∧z110=u110∧z111=u111∧z112=u112∧z113=u113∧z114=u114∧z115=u115∧z116=u116∧z117=u117∧z118=u118∧z119=u119∧z120=u120∧z121=undef)
         case first =>
          obtain⟨wq,hwq⟩:∃ x,x=wb:=⟨_,rfl⟩
          subst hwq
          have FF:=Lib.hid F16.out.drew
          obtain⟨B0,hB0⟩:∃ b,b=wq.drew.heap.size:=⟨_,rfl⟩
          have LO:=Lib.hid (show wq.heap.size≤B0 from by rw[hB0];exact Nat.le_refl _)
          have BB:=Lib.hid (Below.refl B0 wq.drew)
          have BQ:=Lib.hid (show B0≤wq.drew.heap.size from Nat.le_of_eq hB0)
          have LB:=Lib.hid ((Below.refl wq.heap.size wq).drew)
          have H1:=Lib.hid (HC.out.below (Below.refl wq.heap.size wq).drew)
          have H2:=Lib.hid ((XC.out _ FF.out.below).2.frac.mono (Nat.zero_le _))
          clear hB0 HC F16 HY1
          have w00:IntKind.i64.wrap 0=0:=by rfl
          refine TillSt.startIn (fun w'=>((w'.cell? ⟨b1,0,none⟩=some (.bool yc.s)∧w'.cell? ⟨b1,1,none⟩=some (.slice yc.a yc.k yc.c)∧w'.cell? ⟨b1,2,none⟩=some (.bool false)∧w'.cell? ⟨b1,3,none⟩=some (.slice yc.a' yc.k' yc.c'))∧(w'.cell? ⟨w4.heap.size+1,0,none⟩=some (.slice (some ⟨w4.heap.size,0,none⟩) 2 2)∧w'.cell? ⟨w4.heap.size,1,none⟩=some (.slice (some ⟨gx,0,none⟩) 1 cx)∧w'.cell? ⟨w.heap.size,0,none⟩=some (.int .i64 2)))∧(w'.cell? ⟨gx,0,none⟩=some (.bool xr.s)∧w'.cell? ⟨gx,1,none⟩=some (.slice xr.a xr.k xr.c)∧w'.cell? ⟨gx,2,none⟩=some (.bool false)∧w'.cell? ⟨gx,3,none⟩=some (.slice xr.a' xr.k' xr.c'))) 15 (by kernel_rfl) (by kernel_rfl) (fun h=>by obtain⟨_,_,h⟩:=h;exact nomatch h.1) (⟨⟨(FF.out.c4 0 rfl),TB.out _ FF.out.below,(FB.out _ FF.out.below).cell 2 1 rfl rfl,NB.out _ FF.out.below⟩,(XC.out _ FF.out.below).1 0 _ rfl,(XC.out _ FF.out.below).1 1 _ rfl,(XC.out _ FF.out.below).1 2 _ rfl,(XC.out _ FF.out.below).1 3 _ rfl⟩) (fun hHeld=>?_)
          generalize wq.drew=wd at *
          refine TillSt.tL 0 hHeld (hy:=Or.inl ⟨by rfl,by intro w hSw;obtain⟨⟨⟨q1,q2,q3,q4⟩, -⟩, -⟩:=hSw;go_simp;try with_reducible rfl⟩) (h:=?_)
          refine TillSt.tL 1 hHeld (hy:=Or.inl ⟨by rfl,by intro w hSw;obtain⟨⟨-,q1, -⟩, -⟩:=hSw;go_simp;try with_reducible rfl⟩) (h:=?_)
          refine TillSt.tP 2 (fun _=>hHeld) ?_
          refine TillSt.tP 3 (fun _=>hHeld) ?_
          refine TillSt.tL 4 hHeld (hy:=Or.inl ⟨by rfl,by intro w hSw;obtain⟨⟨-, -,q1, -⟩, -⟩:=hSw;go_simp;try with_reducible rfl⟩) (h:=?_)
          refine TillSt.tP 5 (fun _=>hHeld) ?_
          refine TillSt.tL 6 hHeld (hy:=Or.inl ⟨by rfl,by intro w hSw;obtain⟨⟨-, -, -,q1⟩, -⟩:=hSw;go_simp;try with_reducible rfl⟩) (h:=?_)
          refine TillSt.tP 7 (fun _=>hHeld) ?_
          refine TillSt.tP 8 (fun _=>hHeld) ?_
          refine TillSt.tL 9 hHeld (hy:=Or.inl ⟨by rfl,by intro w hSw;obtain⟨-,q1,q2,q3,q4⟩:=hSw;go_simp;try with_reducible rfl⟩) (h:=?_)
          refine TillSt.nx [10,14] ?_
          refine NextSt.cons rfl (fun K' hK=>?_) (NextSt.cons rfl (fun K' hK=>?_) NextSt.nil)
          ·
           clear hHeld
           go_simp
           refine(MUL.out _ _ _ H1.out H2.out).mono ?_
           rintro e w7' ⟨V,rfl,⟨aq,kq,cq,aq2,kq2,cq2,rfl,l1,l2,f1,f2⟩,hb⟩
           have G1:=Lib.hid (fun b off e=>Nat.le_trans BQ.out (f1 b off e))
           have G2:=Lib.hid (fun b off e=>Nat.le_trans BQ.out (f2 b off e))
           replace FF:=Lib.hid (FF.out.call hb)
           replace BB:=Lib.hid (BB.out.trans (hb.mono BQ.out))
           replace BQ:=Lib.hid (Nat.le_trans BQ.out hb.size)
           have L1:=Lib.hid l1
           have L2:=Lib.hid l2
           clear l1 l2 f1 f2 hb H1 H2
           refine hK.out _ _ (⟨⟨(FF.out.c4 0 rfl),TB.out _ FF.out.below,(FB.out _ FF.out.below).cell 2 1 rfl rfl,NB.out _ FF.out.below⟩,(XC.out _ FF.out.below).1 0 _ rfl,(XC.out _ FF.out.below).1 1 _ rfl,(XC.out _ FF.out.below).1 2 _ rfl,(XC.out _ FF.out.below).1 3 _ rfl⟩) (fun hHeld=>?_)
           clear hK
           try simp only[Act.put,Lw.s1,Lw.s2,Lw.s3]
           refine TillSt.tP 11 (fun _=>hHeld) ?_
           refine TillSt.tP 12 (fun _=>hHeld) ?_
           refine TillSt.tP 13 (fun _=>hHeld) ?_
           refine TillSt.nx [14] ?_
           refine NextSt.cons rfl (fun K' hK=>?_) NextSt.nil
           clear hHeld
           go_simp
           have FA:=FF.out.alloc (frV false none 0 0 false none 0 0) 68
           have ba:=(Below.refl _ w7').alloc (Nat.le_refl _) (.cells (frV false none 0 0 false none 0 0).toArray 68)
           have NBB:=Lib.hid BQ.out
           replace BB:=Lib.hid (BB.out.trans (ba.mono BQ.out))
           replace BQ:=Lib.hid (Nat.le_trans BQ.out ba.size)
           replace FF:=Lib.hid FA
           have G3:=Lib.hid (fun (p:0<kq) b off e=>Nat.ne_of_lt (L1.out.lt p (b:=b) (off:=off) e))
           have G4:=Lib.hid (fun (p:0<kq2) b off e=>Nat.ne_of_lt (L2.out.lt p (b:=b) (off:=off) e))
           replace L1:=Lib.hid (L1.out.below ba)
           replace L2:=Lib.hid (L2.out.below ba)
           clear FA ba
           generalize w7'.heap.size=bN at *
           generalize World.alloc w7' (.cells #[.bool false, .slice none 0 0, .bool false, .slice none 0 0] 68)=wn at *
           refine hK.out _ _ (⟨⟨(FF.out.c4 1 rfl),TB.out _ FF.out.below,(FB.out _ FF.out.below).cell 2 1 rfl rfl,NB.out _ FF.out.below⟩,(XC.out _ FF.out.below).1 0 _ rfl,(XC.out _ FF.out.below).1 1 _ rfl,(XC.out _ FF.out.below).1 2 _ rfl,(XC.out _ FF.out.below).1 3 _ rfl⟩) (fun hHeld=>?_)
           clear hK
           try simp only[Act.put,Lw.s1,Lw.s2,Lw.s3]
           refine TillSt.nx [15] ?_
           refine NextSt.last rfl (by kernel_rfl) (fun K' hK=>?_) NextSt.nil
           obtain⟨s0,s1,s2,s3⟩:=FF.out.c4 0 rfl
           obtain⟨s4,s5,s6⟩:=FF.out.f3 0 rfl
           have s7':=FF.out.fz 0 3 rfl rfl
           clear hHeld
           go_simp
           clear s0 s1 s2 s3 s4 s5 s6 s7'
           refine hK.out _ _ ?_
           clear hK
           try simp only[Act.put,Lw.s1,Lw.s2,Lw.s3]
           refine TillSt.tP 16 (fun q=>by cases q) ?_
           refine TillSt.done (by kernel_rfl) ?_ _
           have PQ:=FF.out.put 0 rfl (frV (decide (pq.num<0)) aq kq cq false aq2 kq2 cq2) rfl
           have bb':=below_setCells bN NBB.out (frV (decide (pq.num<0)) aq kq cq false aq2 kq2 cq2) 0 _ BB.out
           have n1:=fun (p:0<kq) b off e=>G3.out p b off e
           have n2:=fun (p:0<kq2) b off e=>G4.out p b off e
           have nf:=Lib.hid (show NewF _ _ _ pq (.pointer (some ⟨bN,0,none⟩)) _ from⟨bN,⟨decide (pq.num<0),aq,kq,cq,aq2,kq2,cq2⟩,rfl,Nat.le_trans LO.out NBB.out,PQ,⟨rfl,L1.out.setCellsK n1 0 (frV (decide (pq.num<0)) aq kq cq false aq2 kq2 cq2),L2.out.setCellsK n2 0 (frV (decide (pq.num<0)) aq kq cq false aq2 kq2 cq2),fun b off e=>Nat.le_trans LO.out (G1.out b off e),fun b off e=>Nat.le_trans LO.out (G2.out b off e)⟩,⟨fun p b off e q=>n1 p b off e (by cases q;rfl),fun p b off e q=>n2 p b off e (by cases q;rfl)⟩,LB.out.trans (bb'.mono LO.out)⟩)
           clear PQ bb' n1 n2 FF BB BQ L1 L2 G1 G2 G3 G4 NBB
           gi_wp2
           gi_meet
           case rel=>exact⟨nf.out,rfl,rfl,rfl,rfl,rfl,rfl,rfl,rfl,rfl,rfl,rfl,rfl,rfl,rfl,rfl,rfl,rfl,rfl,rfl,rfl,rfl,rfl,rfl,rfl,rfl,rfl,rfl⟩
          ·
           clear hHeld
           go_simp
           have FA:=FF.out.alloc (frV false none 0 0 false none 0 0) 68
           have ba:=(Below.refl _ wd).alloc (Nat.le_refl _) (.cells (frV false none 0 0 false none 0 0).toArray 68)
           have NBB:=Lib.hid BQ.out
           replace BB:=Lib.hid (BB.out.trans (ba.mono BQ.out))
           replace BQ:=Lib.hid (Nat.le_trans BQ.out ba.size)
           replace FF:=Lib.hid FA
           replace H1:=Lib.hid (H1.out.below ba)
           replace H2:=Lib.hid (H2.out.below ba)
           clear FA ba
           generalize wd.heap.size=bN at *
           generalize World.alloc wd (.cells #[.bool false, .slice none 0 0, .bool false, .slice none 0 0] 68)=wn at *
           refine hK.out _ _ (⟨⟨(FF.out.c4 1 rfl),TB.out _ FF.out.below,(FB.out _ FF.out.below).cell 2 1 rfl rfl,NB.out _ FF.out.below⟩,(XC.out _ FF.out.below).1 0 _ rfl,(XC.out _ FF.out.below).1 1 _ rfl,(XC.out _ FF.out.below).1 2 _ rfl,(XC.out _ FF.out.below).1 3 _ rfl⟩) (fun hHeld=>?_)
           clear hK
           try simp only[Act.put,Lw.s1,Lw.s2,Lw.s3]
           refine TillSt.nx [10] ?_
           refine NextSt.cons rfl (fun K' hK=>?_) NextSt.nil
           clear hHeld
           go_simp
           refine(MUL.out _ _ _ H1.out H2.out).mono ?_
           rintro e w7' ⟨V,rfl,⟨aq,kq,cq,aq2,kq2,cq2,rfl,l1,l2,f1,f2⟩,hb⟩
           have fq:=(FF.out.least 0 rfl).2
           have G1:=Lib.hid (fun b off e=>Nat.le_trans BQ.out (f1 b off e))
           have G2:=Lib.hid (fun b off e=>Nat.le_trans BQ.out (f2 b off e))
           have G3:=Lib.hid (fun b off e=>Nat.lt_of_lt_of_le fq (f1 b off e))
           have G4:=Lib.hid (fun b off e=>Nat.lt_of_lt_of_le fq (f2 b off e))
           clear fq
           replace FF:=Lib.hid (FF.out.call hb)
           replace BB:=Lib.hid (BB.out.trans (hb.mono BQ.out))
           replace BQ:=Lib.hid (Nat.le_trans BQ.out hb.size)
           have L1:=Lib.hid l1
           have L2:=Lib.hid l2
           clear l1 l2 f1 f2 hb H1 H2
           refine hK.out _ _ (⟨⟨(FF.out.c4 1 rfl),TB.out _ FF.out.below,(FB.out _ FF.out.below).cell 2 1 rfl rfl,NB.out _ FF.out.below⟩,(XC.out _ FF.out.below).1 0 _ rfl,(XC.out _ FF.out.below).1 1 _ rfl,(XC.out _ FF.out.below).1 2 _ rfl,(XC.out _ FF.out.below).1 3 _ rfl⟩) (fun hHeld=>?_)
           clear hK
           try simp only[Act.put,Lw.s1,Lw.s2,Lw.s3]
           refine TillSt.tP 11 (fun _=>hHeld) ?_
           refine TillSt.tP 12 (fun _=>hHeld) ?_
           refine TillSt.tP 13 (fun _=>hHeld) ?_
           refine TillSt.nx [15] ?_
           refine NextSt.last rfl (by kernel_rfl) (fun K' hK=>?_) NextSt.nil
           obtain⟨s0,s1,s2,s3⟩:=FF.out.c4 0 rfl
           obtain⟨s4,s5,s6⟩:=FF.out.f3 0 rfl
           have s7':=FF.out.fz 0 3 rfl rfl
           clear hHeld
           go_simp
           clear s0 s1 s2 s3 s4 s5 s6 s7'
           refine hK.out _ _ ?_
           clear hK
           try simp only[Act.put,Lw.s1,Lw.s2,Lw.s3]
           refine TillSt.tP 16 (fun q=>by cases q) ?_
           refine TillSt.done (by kernel_rfl) ?_ _
           have PQ:=FF.out.put 0 rfl (frV (decide (pq.num<0)) aq kq cq false aq2 kq2 cq2) rfl
           have bb':=below_setCells bN NBB.out (frV (decide (pq.num<0)) aq kq cq false aq2 kq2 cq2) 0 _ BB.out
           have n1:=fun (p:0<kq) b off (e:aq=some ⟨b,off,none⟩)=>(Nat.ne_of_lt (G3.out b off e)).symm
           have n2:=fun (p:0<kq2) b off (e:aq2=some ⟨b,off,none⟩)=>(Nat.ne_of_lt (G4.out b off e)).symm
           have nf:=Lib.hid (show NewF _ _ _ pq (.pointer (some ⟨bN,0,none⟩)) _ from⟨bN,⟨decide (pq.num<0),aq,kq,cq,aq2,kq2,cq2⟩,rfl,Nat.le_trans LO.out NBB.out,PQ,⟨rfl,L1.out.setCellsK n1 0 (frV (decide (pq.num<0)) aq kq cq false aq2 kq2 cq2),L2.out.setCellsK n2 0 (frV (decide (pq.num<0)) aq kq cq false aq2 kq2 cq2),fun b off e=>Nat.le_trans LO.out (G1.out b off e),fun b off e=>Nat.le_trans LO.out (G2.out b off e)⟩,⟨fun p b off e q=>n1 p b off e (by cases q;rfl),fun p b off e q=>n2 p b off e (by cases q;rfl)⟩,LB.out.trans (bb'.mono LO.out)⟩)
           clear PQ bb' n1 n2 FF BB BQ L1 L2 G1 G2 G3 G4 NBB
           gi_wp2
           gi_meet
           case rel=>exact⟨nf.out,rfl,rfl,rfl,rfl,rfl,rfl,rfl,rfl,rfl,rfl,rfl,rfl,rfl,rfl,rfl,rfl,rfl,rfl,rfl,rfl,rfl,rfl,rfl,rfl,rfl,rfl,rfl⟩
         case rest =>
          obtain⟨⟨b2,y2,rfl,hbl2,hF,hy2, -,hb2⟩,rfl,rfl,rfl,rfl,rfl,rfl,rfl,rfl,rfl,rfl,rfl,rfl,rfl,rfl,rfl,rfl,rfl,rfl,rfl,rfl,rfl,rfl,rfl,rfl,rfl,rfl,rfl⟩:=hcut
          have HA:=Lib.hid (fsub_any _ _ f02 pq _ ((HY1.out.below hb2).frac.mono (Nat.zero_le _)) (hy2.frac.mono (Nat.zero_le _)) (FL02.out.mono (by decide)) (FLP.out.mono (by decide)))
          clear hbl2 hy2 hb2 HY1 HC F16
          obtain⟨a0,a1,a2,a3⟩:=hF.c4 0 rfl
          obtain⟨c0,c1,c2,c3⟩:=hF.c4 2 rfl
          have FF:=Lib.hid hF
          clear hF
          gi_wp2_with (refine⟨trivial,?_⟩;gi_at_call 125;refine(CallsIn.inRound l (callsIn_wide.2 HA.out)).mono ?_;rintro e w6 ⟨V6,rfl,hV,hb6⟩;obtain⟨y6,rfl,hy6⟩:=hV.cells;have F6:=FF.out.call hb6;have lob:=(FF.out.least 2 rfl).2;obtain⟨g0,g1,g2,g3⟩:=F6.c4 2 rfl;obtain⟨f0,f1,f2,f3⟩:=F6.f4 2 rfl;have F7:=Lib.hid (F6.put 2 rfl (fcE y6) rfl);have loW:=FF.out.below.size;have H6:=Lib.hid (show FcR (w6.setCells b 0 (fcE y6)) W.heap.size y6 (f02-pq) from⟨hy6.s,hy6.n.setCells (fun c off e=>by have:=hy6.fn c off e;omega) 0 _,hy6.d.setCells (fun c off e=>by have:=hy6.fd c off e;omega) 0 _,fun c off e=>Nat.le_trans loW (hy6.fn c off e),fun c off e=>Nat.le_trans loW (hy6.fd c off e)⟩);clear hV hb6 F6 hy6 lob loW FF HA a0 a1 a2 a3 c0 c1 c2 c3)
          clear g0 g1 g2 g3 f0 f1 f2 f3
          have st:=Lib.hid (show ∃ y',Fr W [(b,fcE y')] _∧FcR _ W.heap.size y' (f02-pq) from⟨y6,F7.out.tail.tail,H6.out⟩)
          clear F7 H6
          gi_wp2
          go_roundw
          case rel=>exact Or.inr ⟨rfl,st⟩
          case measure=>simp[intOf]
       ·obtain⟨y,hFY,hHY⟩:=hS.out
        have m0:=NB.out _ hFY.below
        have FY:=Lib.hid hFY
        have HY:=Lib.hid hHY
        clear hS hFY hHY FY0 HY0
        gi_upto_region 19 with fail
        obtain⟨wz,hwz⟩:∃ x,x=wr:=⟨_,rfl⟩
        subst hwz
        clear m0
        obtain⟨sv,hsv⟩:∃ q,q=f02-pq:=⟨_,rfl⟩
        rw[← hsv] at HY
        have FLS:=Lib.hid (show FL sv 900 from by rw[hsv];exact FLS0.out.mono (by decide))
        have XE:=Lib.hid (show sv/f00=x0 from by rw[hsv,E0.out,hpq.out,hf02.out,hf01.out,hf00.out,hz02.out,hz01.out,hz00.out])
        have POS:=Lib.hid (show 0<f00.num from by rw[hf00.out,Rat.num_intCast,hz00.out];exact HN.out)
        clear hsv
        gi_upto_region 19 with fail
        have FQ:=FY
        gi_cut [21,22,121] from 96 (fun p e z wx=>NewF W [(b,fcE y)] wz f00 p wx∧e = .int .i64 0∧z=undef)
        case first =>
         have FF:=Lib.hid (FQ.out).drew
         obtain⟨B0,hB0⟩:∃ b,b=wz.drew.heap.size:=⟨_,rfl⟩
         have LO:=Lib.hid (show wz.heap.size≤B0 from by rw[hB0];exact Nat.le_refl _)
         have BB:=Lib.hid (Below.refl B0 wz.drew)
         have BQ:=Lib.hid (show B0≤wz.drew.heap.size from Nat.le_of_eq hB0)
         have LB:=Lib.hid ((Below.refl wz.heap.size wz).drew)
         have HS:=Lib.hid ((CF00.out _ FF.out.below).2.2)
         have MK:=Lib.hid (MKK00.out)
         clear hB0
         refine TillSt.startIn (fun w'=>w'.cell? ⟨rowsR r0 r1 0,0,none⟩=some (.bool (decide (z00<0)))∧w'.cell? ⟨rowsR r0 r1 0,1,none⟩=some (.slice xa00 xk00 xc00)) 10 (by kernel_rfl) (by kernel_rfl) (fun h=>by obtain⟨_,_,h⟩:=h;exact nomatch h.1) (⟨(CF00.out _ FF.out.below).1,(CF00.out _ FF.out.below).2.1⟩) (fun hHeld=>?_)
         generalize wz.drew=wd at *
         refine TillSt.tP 0 (fun _=>hHeld) ?_
         refine TillSt.tP 1 (fun _=>hHeld) ?_
         refine TillSt.tP 2 (fun _=>hHeld) ?_
         refine TillSt.tL 3 hHeld (hy:=Or.inl ⟨by rfl,by intro w hSw;obtain⟨q1,q2⟩:=hSw;go_simp;try with_reducible rfl⟩) (h:=?_)
         refine TillSt.nx [4,9] ?_
         refine NextSt.cons rfl (fun K' hK=>?_) (NextSt.cons rfl (fun K' hK=>?_) NextSt.nil)
         ·
          clear hHeld
          go_simp
          refine(from_walk 1 _ (by decide) (by decide)).mono ?_
          rintro e w6 ⟨V6,rfl,hV,hb⟩
          replace FF:=Lib.hid (FF.out.call hb)
          replace HS:=Lib.hid (HS.out.below hb)
          replace BB:=Lib.hid (BB.out.trans (hb.mono BQ.out))
          replace BQ:=Lib.hid (Nat.le_trans BQ.out hb.size)
          have H6:=Lib.hid (show Wide 0 w6 V6 ((1:Nat):Int) from hV.mono (Nat.zero_le _))
          clear hV hb
          refine hK.out _ _ (⟨(CF00.out _ FF.out.below).1,(CF00.out _ FF.out.below).2.1⟩) (fun hHeld=>?_)
          clear hK
          try simp only[Act.put,Lw.s1,Lw.s2,Lw.s3]
          refine TillSt.nx [5,9] ?_
          refine NextSt.cons rfl (fun K' hK=>?_) (NextSt.cons rfl (fun K' hK=>?_) NextSt.nil)
          ·
           clear hHeld
           go_simp
           refine(MK.out _ V6 _ (wide0 HS.out) H6.out).mono ?_
           rintro e w7 ⟨V,rfl,⟨aq,kq,cq,aq2,kq2,cq2,rfl,l1,l2,f1,f2⟩,hb⟩
           have G1:=Lib.hid (fun b off e=>Nat.le_trans BQ.out (f1 b off e))
           have G2:=Lib.hid (fun b off e=>Nat.le_trans BQ.out (f2 b off e))
           replace FF:=Lib.hid (FF.out.call hb)
           replace BB:=Lib.hid (BB.out.trans (hb.mono BQ.out))
           replace BQ:=Lib.hid (Nat.le_trans BQ.out hb.size)
           have L1:=Lib.hid l1
           have L2:=Lib.hid l2
           clear l1 l2 f1 f2 hb H6 HS
           refine hK.out _ _ (⟨(CF00.out _ FF.out.below).1,(CF00.out _ FF.out.below).2.1⟩) (fun hHeld=>?_)
           clear hK
           try simp only[Act.put,Lw.s1,Lw.s2,Lw.s3]
           refine TillSt.tP 6 (fun _=>hHeld) ?_
           refine TillSt.tP 7 (fun _=>hHeld) ?_
           refine TillSt.tP 8 (fun _=>hHeld) ?_
           refine TillSt.nx [9] ?_
           refine NextSt.cons rfl (fun K' hK=>?_) NextSt.nil
           clear hHeld
           go_simp
           have FA:=FF.out.alloc (frV false none 0 0 false none 0 0) 68
           have ba:=(Below.refl _ w7).alloc (Nat.le_refl _) (.cells (frV false none 0 0 false none 0 0).toArray 68)
           have NB:=Lib.hid BQ.out
           replace BB:=Lib.hid (BB.out.trans (ba.mono BQ.out))
           replace BQ:=Lib.hid (Nat.le_trans BQ.out ba.size)
           replace FF:=Lib.hid FA
           have G3:=Lib.hid (fun (p:0<kq) b off e=>Nat.ne_of_lt (L1.out.lt p (b:=b) (off:=off) e))
           have G4:=Lib.hid (fun (p:0<kq2) b off e=>Nat.ne_of_lt (L2.out.lt p (b:=b) (off:=off) e))
           replace L1:=Lib.hid (L1.out.below ba)
           replace L2:=Lib.hid (L2.out.below ba)
           clear FA ba
           generalize w7.heap.size=bN at *
           generalize World.alloc w7 (.cells #[.bool false, .slice none 0 0, .bool false, .slice none 0 0] 68)=wn at *
           refine hK.out _ _ (⟨(CF00.out _ FF.out.below).1,(CF00.out _ FF.out.below).2.1⟩) (fun hHeld=>?_)
           clear hK
           try simp only[Act.put,Lw.s1,Lw.s2,Lw.s3]
           refine TillSt.nx [10] ?_
           refine NextSt.last rfl (by kernel_rfl) (fun K' hK=>?_) NextSt.nil
           obtain⟨s0,s1,s2,s3⟩:=FF.out.c4 0 rfl
           obtain⟨s4,s5,s6,s7⟩:=FF.out.f4 0 rfl
           clear hHeld
           go_simp
           clear s0 s1 s2 s3 s4 s5 s6 s7
           refine hK.out _ _ ?_
           clear hK
           try simp only[Act.put,Lw.s1,Lw.s2,Lw.s3]
           refine TillSt.tP 11 (fun q=>by cases q) ?_
           refine TillSt.done (by kernel_rfl) ?_ _
           have PQ:=FF.out.put 0 rfl (frV (decide (f00.num<0)) aq kq cq false aq2 kq2 cq2) rfl
           have bb:=below_setCells bN NB.out (frV (decide (f00.num<0)) aq kq cq false aq2 kq2 cq2) 0 _ BB.out
           have nf:=Lib.hid (show NewF _ _ _ f00 (.pointer (some ⟨bN,0,none⟩)) _ from⟨bN,⟨decide (f00.num<0),aq,kq,cq,aq2,kq2,cq2⟩,rfl,Nat.le_trans LO.out NB.out,PQ,⟨rfl,L1.out.setCellsK G3.out 0 (frV (decide (f00.num<0)) aq kq cq false aq2 kq2 cq2),L2.out.setCellsK G4.out 0 (frV (decide (f00.num<0)) aq kq cq false aq2 kq2 cq2),fun b off e=>Nat.le_trans LO.out (G1.out b off e),fun b off e=>Nat.le_trans LO.out (G2.out b off e)⟩,⟨fun p b off e q=>G3.out p b off e (by cases q;rfl),fun p b off e q=>G4.out p b off e (by cases q;rfl)⟩,LB.out.trans (bb.mono LO.out)⟩)
           clear PQ bb FF BB BQ L1 L2 G1 G2 G3 G4 NB
           gi_wp2
           gi_meet
           case rel=>exact⟨nf.out,rfl,rfl⟩
          ·
           clear hHeld
           go_simp
           have FA:=FF.out.alloc (frV false none 0 0 false none 0 0) 68
           have ba:=(Below.refl _ w6).alloc (Nat.le_refl _) (.cells (frV false none 0 0 false none 0 0).toArray 68)
           have NB:=Lib.hid BQ.out
           replace BB:=Lib.hid (BB.out.trans (ba.mono BQ.out))
           replace BQ:=Lib.hid (Nat.le_trans BQ.out ba.size)
           replace FF:=Lib.hid FA
           replace HS:=Lib.hid (HS.out.below ba)
           replace H6:=Lib.hid (H6.out.below ba)
           clear FA ba
           generalize w6.heap.size=bN at *
           generalize World.alloc w6 (.cells #[.bool false, .slice none 0 0, .bool false, .slice none 0 0] 68)=wn at *
           refine hK.out _ _ (⟨(CF00.out _ FF.out.below).1,(CF00.out _ FF.out.below).2.1⟩) (fun hHeld=>?_)
           clear hK
           try simp only[Act.put,Lw.s1,Lw.s2,Lw.s3]
           refine TillSt.nx [5] ?_
           refine NextSt.cons rfl (fun K' hK=>?_) NextSt.nil
           clear hHeld
           go_simp
           refine(MK.out _ V6 _ (wide0 HS.out) H6.out).mono ?_
           rintro e w7 ⟨V,rfl,⟨aq,kq,cq,aq2,kq2,cq2,rfl,l1,l2,f1,f2⟩,hb⟩
           have fq:=(FF.out.least 0 rfl).2
           have G1:=Lib.hid (fun b off e=>Nat.le_trans BQ.out (f1 b off e))
           have G2:=Lib.hid (fun b off e=>Nat.le_trans BQ.out (f2 b off e))
           have G3:=Lib.hid (fun (_:0<kq) b off e=>(Nat.ne_of_lt (Nat.lt_of_lt_of_le fq (f1 b off e))).symm)
           have G4:=Lib.hid (fun (_:0<kq2) b off e=>(Nat.ne_of_lt (Nat.lt_of_lt_of_le fq (f2 b off e))).symm)
           clear fq
           replace FF:=Lib.hid (FF.out.call hb)
           replace BB:=Lib.hid (BB.out.trans (hb.mono BQ.out))
           replace BQ:=Lib.hid (Nat.le_trans BQ.out hb.size)
           have L1:=Lib.hid l1
           have L2:=Lib.hid l2
           clear l1 l2 f1 f2 hb H6 HS
           refine hK.out _ _ (⟨(CF00.out _ FF.out.below).1,(CF00.out _ FF.out.below).2.1⟩) (fun hHeld=>?_)
           clear hK
           try simp only[Act.put,Lw.s1,Lw.s2,Lw.s3]
           refine TillSt.tP 6 (fun _=>hHeld) ?_
           refine TillSt.tP 7 (fun _=>hHeld) ?_
           refine TillSt.tP 8 (fun _=>hHeld) ?_
           refine TillSt.nx [10] ?_
           refine NextSt.last rfl (by kernel_rfl) (fun K' hK=>?_) NextSt.nil
           obtain⟨s0,s1,s2,s3⟩:=FF.out.c4 0 rfl
           obtain⟨s4,s5,s6,s7⟩:=FF.out.f4 0 rfl
           clear hHeld
           go_simp
           clear s0 s1 s2 s3 s4 s5 s6 s7
           refine hK.out _ _ ?_
           clear hK
           try simp only[Act.put,Lw.s1,Lw.s2,Lw.s3]
           refine TillSt.tP 11 (fun q=>by cases q) ?_
           refine TillSt.done (by kernel_rfl) ?_ _
           have PQ:=FF.out.put 0 rfl (frV (decide (f00.num<0)) aq kq cq false aq2 kq2 cq2) rfl
           have bb:=below_setCells bN NB.out (frV (decide (f00.num<0)) aq kq cq false aq2 kq2 cq2) 0 _ BB.out
           have nf:=Lib.hid (show NewF _ _ _ f00 (.pointer (some ⟨bN,0,none⟩)) _ from⟨bN,⟨decide (f00.num<0),aq,kq,cq,aq2,kq2,cq2⟩,rfl,Nat.le_trans LO.out NB.out,PQ,⟨rfl,L1.out.setCellsK G3.out 0 (frV (decide (f00.num<0)) aq kq cq false aq2 kq2 cq2),L2.out.setCellsK G4.out 0 (frV (decide (f00.num<0)) aq kq cq false aq2 kq2 cq2),fun b off e=>Nat.le_trans LO.out (G1.out b off e),fun b off e=>Nat.le_trans LO.out (G2.out b off e)⟩,⟨fun p b off e q=>G3.out p b off e (by cases q;rfl),fun p b off e q=>G4.out p b off e (by cases q;rfl)⟩,LB.out.trans (bb.mono LO.out)⟩)
           clear PQ bb FF BB BQ L1 L2 G1 G2 G3 G4 NB
           gi_wp2
           gi_meet
           case rel=>exact⟨nf.out,rfl,rfl⟩
         ·
          clear hHeld
          go_simp
          have FA:=FF.out.alloc (frV false none 0 0 false none 0 0) 68
          have ba:=(Below.refl _ wd).alloc (Nat.le_refl _) (.cells (frV false none 0 0 false none 0 0).toArray 68)
          have NB:=Lib.hid BQ.out
          replace BB:=Lib.hid (BB.out.trans (ba.mono BQ.out))
          replace BQ:=Lib.hid (Nat.le_trans BQ.out ba.size)
          replace FF:=Lib.hid FA
          replace HS:=Lib.hid (HS.out.below ba)
          clear FA ba
          generalize wd.heap.size=bN at *
          generalize World.alloc wd (.cells #[.bool false, .slice none 0 0, .bool false, .slice none 0 0] 68)=wn at *
          refine hK.out _ _ (⟨(CF00.out _ FF.out.below).1,(CF00.out _ FF.out.below).2.1⟩) (fun hHeld=>?_)
          clear hK
          try simp only[Act.put,Lw.s1,Lw.s2,Lw.s3]
          refine TillSt.nx [4] ?_
          refine NextSt.cons rfl (fun K' hK=>?_) NextSt.nil
          clear hHeld
          go_simp
          refine(from_walk 1 _ (by decide) (by decide)).mono ?_
          rintro e w6 ⟨V6,rfl,hV,hb⟩
          replace FF:=Lib.hid (FF.out.call hb)
          replace HS:=Lib.hid (HS.out.below hb)
          replace BB:=Lib.hid (BB.out.trans (hb.mono BQ.out))
          replace BQ:=Lib.hid (Nat.le_trans BQ.out hb.size)
          have H6:=Lib.hid (show Wide 0 w6 V6 ((1:Nat):Int) from hV.mono (Nat.zero_le _))
          clear hV hb
          refine hK.out _ _ (⟨(CF00.out _ FF.out.below).1,(CF00.out _ FF.out.below).2.1⟩) (fun hHeld=>?_)
          clear hK
          try simp only[Act.put,Lw.s1,Lw.s2,Lw.s3]
          refine TillSt.nx [5] ?_
          refine NextSt.cons rfl (fun K' hK=>?_) NextSt.nil
          clear hHeld
          go_simp
          refine(MK.out _ V6 _ (wide0 HS.out) H6.out).mono ?_
          rintro e w7 ⟨V,rfl,⟨aq,kq,cq,aq2,kq2,cq2,rfl,l1,l2,f1,f2⟩,hb⟩
          have fq:=(FF.out.least 0 rfl).2
          have G1:=Lib.hid (fun b off e=>Nat.le_trans BQ.out (f1 b off e))
          have G2:=Lib.hid (fun b off e=>Nat.le_trans BQ.out (f2 b off e))
          have G3:=Lib.hid (fun (_:0<kq) b off e=>(Nat.ne_of_lt (Nat.lt_of_lt_of_le fq (f1 b off e))).symm)
          have G4:=Lib.hid (fun (_:0<kq2) b off e=>(Nat.ne_of_lt (Nat.lt_of_lt_of_le fq (f2 b off e))).symm)
          clear fq
          replace FF:=Lib.hid (FF.out.call hb)
          replace BB:=Lib.hid (BB.out.trans (hb.mono BQ.out))
          replace BQ:=Lib.hid (Nat.le_trans BQ.out hb.size)
          have L1:=Lib.hid l1
          have L2:=Lib.hid l2
          clear l1 l2 f1 f2 hb H6 HS
          refine hK.out _ _ (⟨(CF00.out _ FF.out.below).1,(CF00.out _ FF.out.below).2.1⟩) (fun hHeld=>?_)
          clear hK
          try simp only[Act.put,Lw.s1,Lw.s2,Lw.s3]
          refine TillSt.tP 6 (fun _=>hHeld) ?_
          refine TillSt.tP 7 (fun _=>hHeld) ?_
          refine TillSt.tP 8 (fun _=>hHeld) ?_
          refine TillSt.nx [10] ?_
          refine NextSt.last rfl (by kernel_rfl) (fun K' hK=>?_) NextSt.nil
          obtain⟨s0,s1,s2,s3⟩:=FF.out.c4 0 rfl
          obtain⟨s4,s5,s6,s7⟩:=FF.out.f4 0 rfl
          clear hHeld
          go_simp
          clear s0 s1 s2 s3 s4 s5 s6 s7
          refine hK.out _ _ ?_
          clear hK
          try simp only[Act.put,Lw.s1,Lw.s2,Lw.s3]
          refine TillSt.tP 11 (fun q=>by cases q) ?_
          refine TillSt.done (by kernel_rfl) ?_ _
          have PQ:=FF.out.put 0 rfl (frV (decide (f00.num<0)) aq kq cq false aq2 kq2 cq2) rfl
          have bb:=below_setCells bN NB.out (frV (decide (f00.num<0)) aq kq cq false aq2 kq2 cq2) 0 _ BB.out
          have nf:=Lib.hid (show NewF _ _ _ f00 (.pointer (some ⟨bN,0,none⟩)) _ from⟨bN,⟨decide (f00.num<0),aq,kq,cq,aq2,kq2,cq2⟩,rfl,Nat.le_trans LO.out NB.out,PQ,⟨rfl,L1.out.setCellsK G3.out 0 (frV (decide (f00.num<0)) aq kq cq false aq2 kq2 cq2),L2.out.setCellsK G4.out 0 (frV (decide (f00.num<0)) aq kq cq false aq2 kq2 cq2),fun b off e=>Nat.le_trans LO.out (G1.out b off e),fun b off e=>Nat.le_trans LO.out (G2.out b off e)⟩,⟨fun p b off e q=>G3.out p b off e (by cases q;rfl),fun p b off e q=>G4.out p b off e (by cases q;rfl)⟩,LB.out.trans (bb.mono LO.out)⟩)
          clear PQ bb FF BB BQ L1 L2 G1 G2 G3 G4 NB
          gi_wp2
          gi_meet
          case rel=>exact⟨nf.out,rfl,rfl⟩
        case rest =>
         obtain⟨⟨b2,y2,rfl,hbl2,hF,hy2,ho2,hb2⟩,rfl,rfl⟩:=hcut
         have HA:=Lib.hid (fdiv_any _ _ sv f00 _ ((HY.out.below hb2).frac.mono (Nat.zero_le _)) (hy2.frac.mono (Nat.zero_le _)) FLS.out (FL00.out.mono (by decide)) POS.out)
         rw[XE.out] at HA
         clear hbl2 hy2 ho2 hb2 HY FY FQ
         obtain⟨a0,a1,a2,a3⟩:=hF.c4 0 rfl
         obtain⟨c0,c1,c2,c3⟩:=hF.c4 1 rfl
         have FF:=Lib.hid hF
         clear hF
         gi_wp2_with (refine⟨trivial,?_⟩;gi_at_call 180;refine(CallsIn.inRound l (callsIn_wide.2 HA.out)).mono ?_;rintro e w6 ⟨V6,rfl,hV,hb6⟩;obtain⟨y6,rfl,hy6⟩:=hV.cells;have F6:=FF.out.call hb6;have lob:=(FF.out.least 1 rfl).2;obtain⟨g0,g1,g2,g3⟩:=F6.c4 1 rfl;obtain⟨f0,f1,f2,f3⟩:=F6.f4 1 rfl;have F7:=Lib.hid (F6.put 1 rfl (fcE y6) rfl);have loW:=FF.out.below.size;have H6:=Lib.hid (show FcR (w6.setCells b 0 (fcE y6)) W.heap.size y6 x0 from⟨hy6.s,hy6.n.setCells (fun c off e=>by have:=hy6.fn c off e;omega) 0 _,hy6.d.setCells (fun c off e=>by have:=hy6.fd c off e;omega) 0 _,fun c off e=>Nat.le_trans loW (hy6.fn c off e),fun c off e=>Nat.le_trans loW (hy6.fd c off e)⟩);clear hV hb6 F6 hy6 lob loW FF HA a0 a1 a2 a3 c0 c1 c2 c3)
         clear g0 g1 g2 g3 f0 f1 f2 f3
         have FY:=Lib.hid F7.out.tail
         have HY:=H6
         clear F7 H6
         obtain⟨ws,hws⟩:∃ x,x=w6.setCells b 0 (fcE y6):=⟨_,rfl⟩
         have e8:((((w6.setCell ⟨b,0,none⟩ (.bool y6.s)).setCell ⟨b,1,none⟩ (.slice y6.a y6.k y6.c)).setCell ⟨b,2,none⟩ (.bool false)).setCell ⟨b,3,none⟩ (.slice y6.a' y6.k' y6.c'))=ws:=hws.symm
         rw[e8]
         have T:=Lib.hid (show Fr W [(b,fcE y6)] ws.drew from by rw[hws];exact FY.out.drew)
         have HQ:=Lib.hid (show FcR ws.drew W.heap.size y6 x0 from by rw[hws];exact HY.out.below (Below.refl _ _).drew)
         clear e8 hws FY HY
         refine TillSt.startIn (fun w'=>(w'.cell? ⟨w4.heap.size+1,0,none⟩=some (.slice (some ⟨w4.heap.size,0,none⟩) 2 2)∧w'.cell? ⟨w4.heap.size,0,none⟩=some (.slice none 0 0))∧(w'.cell? ⟨b,0,none⟩=some (.bool y6.s)∧w'.cell? ⟨b,1,none⟩=some (.slice y6.a y6.k y6.c)∧w'.cell? ⟨b,2,none⟩=some (.bool false)∧w'.cell? ⟨b,3,none⟩=some (.slice y6.a' y6.k' y6.c'))) 10 (by kernel_rfl) (by kernel_rfl) (fun h=>by obtain⟨_,_,h⟩:=h;exact nomatch h.1) (⟨⟨TB.out _ T.out.below,(FB.out _ T.out.below).cell 2 0 rfl rfl⟩,T.out.cell 0 0 rfl rfl,T.out.cell 0 1 rfl rfl,T.out.cell 0 2 rfl rfl,T.out.cell 0 3 rfl rfl⟩) (fun hHeld=>?_)
         generalize ws.drew=wd at *
         refine TillSt.tL 0 hHeld (hy:=Or.inl ⟨by rfl,by intro w hSw;obtain⟨⟨q1, -⟩, -⟩:=hSw;go_simp;try with_reducible rfl⟩) (h:=?_)
         refine TillSt.tP 1 (fun _=>hHeld) ?_
         refine TillSt.tL 2 hHeld (hy:=Or.inl ⟨by rfl,by intro w hSw;obtain⟨⟨q1, -⟩, -⟩:=hSw;go_simp;try with_reducible rfl⟩) (h:=?_)
         refine TillSt.tP 3 (fun _=>hHeld) ?_
         refine TillSt.tP 4 (fun _=>hHeld) ?_
         refine TillSt.tL 5 hHeld (hy:=Or.inl ⟨by rfl,by intro w hSw;obtain⟨⟨-,q2⟩, -⟩:=hSw;go_simp;try with_reducible rfl⟩) (h:=?_)
         refine TillSt.tL 6 hHeld (hy:=Or.inl ⟨by rfl,by intro w hSw;obtain⟨-,q1,q2,q3,q4⟩:=hSw;go_simp;try with_reducible rfl⟩) (h:=?_)
         refine TillSt.nx [7] ?_
         refine NextSt.cons rfl (fun K' hK=>?_) NextSt.nil
         clear hHeld
         go_simp
         have ba:=(Below.refl _ wd).alloc (Nat.le_refl _) (.cells (fcE y6).toArray 68)
         have T0:=T
         replace T:=Lib.hid (T.out.call ba)
         clear ba
         refine hK.out _ _ (⟨⟨TB.out _ T.out.below,(FB.out _ T.out.below).cell 2 0 rfl rfl⟩,T.out.cell 0 0 rfl rfl,T.out.cell 0 1 rfl rfl,T.out.cell 0 2 rfl rfl,T.out.cell 0 3 rfl rfl⟩) (fun hHeld=>?_)
         clear hK
         try simp only[Act.put,Lw.s1,Lw.s2,Lw.s3]
         refine TillSt.nx [8] ?_
         refine NextSt.cons rfl (fun K' hK=>?_) NextSt.nil
         clear hHeld
         refine step_rowF1 wd rfl (.tmp 116) (.tmp 118) (by rfl) W.heap.size y6 x0 (by rfl) (by rfl) T0.out.below.size HQ.out ?_
         intro Av cv w9 hR hb9
         replace T:=Lib.hid (T0.out.call hb9)
         have HR:=Lib.hid hR
         clear hR hb9 T0 HQ
         refine hK.out _ _ (⟨⟨TB.out _ T.out.below,(FB.out _ T.out.below).cell 2 0 rfl rfl⟩,T.out.cell 0 0 rfl rfl,T.out.cell 0 1 rfl rfl,T.out.cell 0 2 rfl rfl,T.out.cell 0 3 rfl rfl⟩) (fun hHeld=>?_)
         clear hK
         try simp only[Act.put,Lw.s1,Lw.s2,Lw.s3]
         refine TillSt.tP 9 (fun _=>hHeld) ?_
         refine TillSt.nx [10] ?_
         refine NextSt.last rfl (by kernel_rfl) (fun K' hK=>?_) NextSt.nil
         have s0:=(FB.out _ T.out.below).cell 2 0 rfl rfl
         have s1:=(FB.out _ T.out.below).fz 2 0 rfl rfl
         clear hHeld
         go_simp
         clear s0 s1
         refine hK.out _ _ ?_
         clear hK
         try simp only[Act.put,Lw.s1,Lw.s2,Lw.s3]
         refine TillSt.done (by kernel_rfl) ?_ _
         have fin:=Lib.hid (ST'.out w9 (.slice Av 1 cv) T.out.below HR.out)
         clear T HR
         have st:Hid (OutI w4 w4.heap.size g c (w4.heap.size+3) x0 x1 (1+1) _∧KeepB w4.heap.size (w4.heap.size+1+1) W _∧KeepsFrom w7.heap.size W _):=Lib.hid ⟨fin.out.1,fin.out.2.1,fin.out.2.2 _ hbo.out⟩
         clear fin
         gi_wp2
         go_roundw
         case rel=>exact Or.inr ⟨rfl,st⟩
         case measure=>simp[intOf]
    ·gi_wp2
     exact⟨hfin.out.2.1,hfin.out.1,hfin.out.2.2⟩
 case done =>
  intro D W hD hI hK
  obtain⟨X0,X1,hF, -, -,p1,p0⟩:=hI
  have c10:=hF.cell 1 0 rfl rfl
  have st:=Lib.hid (show BackPost x0 x1 w (.returned (.tuple #[.slice (some ⟨w4.heap.size,0,none⟩) 2 2, .bool true])) (W.putObj D (.deferred none)) from
   ⟨w4.heap.size,X0,X1,rfl,by rw[World.putObj_size];exact(hF.least 2 rfl).2,rangeAt_putObj (n:=0) (hF.get 2 rfl) hK rfl,((p0 (by omega)).mono (by omega)).putObj _ hK rfl,((p1 (by omega)).mono (by omega)).putObj _ hK rfl,(BW.trans (hF.below.mono (by omega))).trans (below_putObj W D _ _ (by omega) hK)⟩)
  clear hF p1 p0
  go_wp2_with fail
  refine⟨by simp, .inl ⟨_,_,rfl,run_takeDeferred hK,?_⟩⟩
  refine⟨_,results_tmp2 rfl _ _ _,?_⟩
  exact st.out
end Wd
end Go.Proofs.YtdnogmanbdgadaaGreatDoor
