/-
  Lemmas and walks, texts joined: QBk1, QConc, QBkA.
-/
import Derived.RangeFuncNested
import Derived.Lib.AppendZeros
import Derived.Test.YtdnogmanbdgadaaGreatDoorTb17
import Derived.Test.YtdnogmanbdgadaaGreatDoorTb34
import Derived.Test.YtdnogmanbdgadaaGreatDoorTb29
set_option linter.unusedSimpArgs false
set_option linter.unusedVariables false
set_option maxRecDepth 100000
set_option maxHeartbeats 40000000
namespace Go.Proofs.YtdnogmanbdgadaaGreatDoor
namespace Wd
open Go.RowKit Lw Tw Go.Shelf
attribute [local go_sem] Oper.semAt_some

def YieldsTo (P:Program) (n:Nat) (l:Nat) (encs:Nat→Array Value) (Kp:World→World→Prop) (N:Nat) (J:Nat→World→Prop):Prop :=
 ∀ k W,k<N→J k W→YieldAt Fence.wide n P l (encs k) W fun e W'=>e = .returned (.bool true)∧J (k+1) W'∧Kp W W'
theorem range_rounds {P:Program} {n:Nat} {g:Operand} {ps:Array Tmp} {assign body:Code} {Q:Exit→Act→World→Prop} {a:Act} {w:World} (h1:1≤n) {gf:Nat} {lb:Array Value} (hg:a.eval g = .func (.func gf) #[] lb) (eg:∀ args w,(callFunc gf args).run P w = .ok (.enter gf args) w)
  (encs:Nat→Array Value) (N:Nat) (hps:∀ k,(encs k).size=ps.size) (Kp:World→World→Prop) (I:Nat→World→Prop)
  (hseq:∀ l (J:Nat→World→Prop) W,Below w.heap.size w W→YieldsTo P (n-1-1) l encs Kp N J→J 0 W→CallsIn Fence.wide (n-1) P gf (#[.func (.yield l) #[] #[]]++lb) W fun e W'=>(∃ v,e = .returned v)∧J N W')
  (hKt:∀ A B C,Kp A B→Kp B C→Kp A C) (hKb:∀ W l o o',w.heap.size≤l→W.heap[l]? = some o→o.isCells=false→Kp W (W.putObj l o'))
  (hI:∀ k W l o o',w.heap.size≤l→W.heap[l]? = some o→o.isCells=false→I k W→I k (W.putObj l o')) (h0:∀ W,Below w.heap.size w W→I 0 W) (a₁:Nat→Act)
  (hassign:∀ l k W (K:Act→World→Prop),K (a₁ k) W→assign.wpIn (Fence.wide.inRound l) (n-1-1) P (Exit.then K (fun _ _ _=>False)) { tmps:=(ps.zip (encs k)).foldl (fun t (p,v)=>t.setIfInBounds p v) a.tmps,defers:=[] } W)
  (hbody:∀ l k W,k<N→I k W→body.wpIn (Fence.wide.inRound l) (n-1-1) P (fun e _ W'=>e = .normal∧Kp W W'∧I (k+1) W'∧KeepsFrom w.heap.size W W') (a₁ k) W)
  (hdone:∀ D W,w.heap.size≤D→I N W→W.heap[D]? = some (.deferred (some []))→Q .normal { a with defers:={ target:=.collected D,args:=#[] }::a.defers } W) :
  (Code.rangeFunc g ps assign body).wpIn Fence.wide n P Q a w:=by
 refine wpIn_rangeFunc fun fn hfn=>?_
 obtain⟨lr,hlr⟩:∃ r:LoopState→Loop,r=fun st=>{ state:=st,pending:=none,fn,tmps:=a.tmps,params:=ps,assign,body,defers:=w.heap.size }:=⟨_,rfl⟩
 obtain⟨D,hD⟩:∃ D,D=w.heap.size:=⟨_,rfl⟩
 obtain⟨W1,hW1⟩:∃ W,W=(w.alloc (.deferred (some []))).alloc (.loop (lr .ready)):=⟨_,rfl⟩
 have bW:Below w.heap.size w W1:=by
  rw[hW1];exact((Below.refl _ w).alloc (Nat.le_refl _) _).alloc (by simp) _
 have bl:W1.heap[D+1]? = some (.loop (lr .ready)):=by
  have:=World.alloc_heap_new (w.alloc (.deferred (some []))) (.loop (lr .ready))
  rw[World.size_alloc] at this
  rw[hW1,hD];exact this
 have bd:W1.heap[D]? = some (.deferred (some [])):=by
  rw[hW1,hD];exact(Below.heap_alloc _ _ _ (by simp)).trans (World.alloc_heap_new w _)
 have he:=run_enterLoop_outer (P:=P) (w:=w) fn a.tmps ps assign body
 refine⟨D+1,_,W1,{ target:=.fn (.func gf) lb,args:=#[.func (.yield (D+1)) #[] #[]] },W1,gf,#[.func (.yield (D+1)) #[] #[]]++lb,W1,by rw[hW1,hlr,hD];exact he,?_,fun f' _=>trivial,by simp[invoke,go_sem,eg],fun _=>h1,?_⟩
 ·simp only[resolve,hg]
  simp[go_sem]
 ·refine(hseq (D+1) (fun k W=>I k W∧W.heap[D+1]? = some (.loop (lr .ready))∧W.heap[D]? = some (.deferred (some []))) W1 bW ?_ ⟨h0 _ bW,bl,bd⟩).mono ?_
  ·rintro k W hk ⟨hi,hl,hd⟩
   have lt:D+1<W.heap.size:=(Array.getElem?_eq_some_iff.1 hl).1
   have hy:=run_yield (P:=P) (args:=encs k) hl (by rw[hlr];exact hps k)
   rw[hlr] at hy
   refine⟨fn,_,assign,body,hy,roundIn_of_wpIn hfn (hassign _ k W _ ⟨_,run_beginRound hl (by rw[hlr]),?_⟩)⟩
   have k1:=hKb W (D+1) _ (.loop { lr .ready with state:=.busy }) (by omega) hl rfl
   have l2:(W.putObj (D+1) (.loop { lr .ready with state:=.busy })).heap[D+1]? = some (.loop { lr .ready with state:=.busy }):=World.putObj_heap_same lt
   have d2:(W.putObj (D+1) (.loop { lr .ready with state:=.busy })).heap[D]? = some (.deferred (some [])):=(World.putObj_heap_other (by omega)).trans hd
   refine wpIn_mono (hbody _ k _ hk (hI _ _ _ _ _ (by omega) hl rfl hi)) ?_
   rintro e a3 W3 ⟨rfl,k2,i3,kf⟩
   have l3:=kf.same _ _ (by omega) l2 rfl
   have d3:=kf.same _ _ (by omega) d2 rfl
   have k3:=hKb W3 (D+1) _ (.loop (lr .ready)) (by omega) l3 rfl
   have er:=run_endRound (P:=P) none l3
   refine⟨_,_,er,rfl,⟨?_,?_,?_⟩,hKt _ _ _ (hKt _ _ _ k1 k2) ?_⟩
   ·exact hI _ _ _ _ _ (by omega) l3 rfl i3
   ·rw[hlr];exact World.putObj_heap_same (Array.getElem?_eq_some_iff.1 l3).1
   ·exact(World.putObj_heap_other (by omega)).trans d3
   ·rw[hlr] at k3 ⊢;exact k3
  ·rintro e W2 ⟨⟨v,rfl⟩,hi,hl,hd⟩
   have ee:=run_endLoop (P:=P) hl (by rw[hlr];simp)
   refine⟨none,_,by rw[hlr] at ee;exact ee,?_⟩
   rw[← hD]
   exact hdone D _ (by omega) (hI _ _ _ _ _ (by omega) hl rfl hi) ((World.putObj_heap_other (by omega)).trans hd)
def bkEnc (R:Nat→Nat) (k:Nat):Array Value:=#[.int .i64 ((1-k:Nat):Int), .slice (some ⟨R (1-k),0,none⟩) 3 3]
theorem backward_walk (a:Option Addr) (n cap:Nat) (w:World) :
  Calls Tryz.prog 179 #[.slice a n cap] w fun e w'=>e = .returned (.func (.func 209) #[] #[.pointer (some ⟨w.heap.size,0,none⟩)])∧w'=w.alloc (.cells #[.slice a n cap] 221):=by
 go_enter Tryz.func179,Tryz.ntmps179
 go_wp2
 exact bodyPost_ret (results_tmp rfl _ _ _) rfl ⟨rfl,rfl⟩
theorem bk1_in (n:Nat) (lp Bs gr cap:Nat) (R:Nat→Nat) (w0:World) (hG:∀ i,i<2→w0.cell? ⟨gr,i,none⟩=some (.slice (some ⟨R i,0,none⟩) 3 3)) (hgl:gr<w0.heap.size) (J:Nat→World→Prop) (hY:YieldsTo Tryz.prog n lp (bkEnc R) (KeepB w0.heap.size Bs) 2 J)
  (W:World) (hB0:Below w0.heap.size w0 W) (hBs:W.heap[Bs]? = some (.cells #[.slice (some ⟨gr,0,none⟩) 2 cap] 221 (0,0))) (h0:J 0 W) :
  CallsIn Fence.wide (n+1) Tryz.prog 209 #[.func (.yield lp) #[] #[], .pointer (some ⟨Bs,0,none⟩)] W fun e W'=>(∃ v,e = .returned v)∧J 2 W':=by
 have HG:=Lib.hid (fun i hi W' (hb:Below w0.heap.size w0 W')=>(hb.cell (p:=⟨gr,i,none⟩) hgl).trans (hG i hi))
 have HY:=Lib.hid hY
 clear hG hgl hY
 refine callsIn_of_wp Tryz.func209 rfl trivial ?_ rfl
 simp only[Tryz.ntmps209,List.size_toArray,List.length_cons,List.length_nil,Nat.reduceAdd,Nat.reduceSub,Array.replicate_succ,Array.replicate_zero,List.push_toArray,List.append_toArray,List.nil_append,List.cons_append]
 have cB:=cell_of_one hBs
 gi_wp2
 gi_loopw [3] (fun i wr=>∃ k:Nat,k≤2∧i = .int .i64 (1-(k:Int))∧Hid (J k wr)∧KeepB w0.heap.size Bs W wr)
  (fun i _=>(intOf i+1).toNat)
 case atStart=>exact⟨0,by omega,rfl,Lib.hid h0,Below.refl _ _,rfl⟩
 case round =>
  clear h0
  obtain⟨k,hk,rfl,hJs,hnx⟩:=hrel
  have cB:=cell_of_one (hnx.2.trans hBs)
  by_cases hk2:k<2
  ·have hcx:=HG.out (1-k) (by omega) _ (hB0.trans hnx.1)
   obtain⟨fn,tmps,assign,body,hy,hR⟩:=HY.out k wr hk2 hJs.out
   dsimp only[bkEnc] at hy
   obtain⟨p,hp⟩:∃ p,p=1-k:=⟨_,rfl⟩
   have e1:1-(k:Int)=(p:Int):=by omega
   have k1:(p:Int)<2:=by omega
   have k0:(0:Int)≤(p:Int):=by omega
   have e2:(p:Int)-1=1-((k+1:Nat):Int):=by omega
   rw[← hp] at hcx hy
   rw[e1]
   replace e2:=Lib.hid e2
   have M:=Lib.hid (show ((p:Int)-1+1).toNat<((p:Int)+1).toNat by omega)
   clear hp e1
   gi_wp2
   refine hR.mono ?_
   rintro e W3 ⟨rfl,hJ3,hk3⟩
   replace hJ3:=Lib.hid hJ3
   gi_wp2
   go_roundw
   case rel=>exact⟨k+1,by omega,congrArg _ e2.out,hJ3,keepB_t hnx hk3⟩
   case measure=>exact M.out
  ·obtain rfl:k=2:=by omega
   rw[show (1:Int)-((2:Nat):Int) = -1 from rfl]
   gi_wp2
   go_end0
   exact⟨⟨_,rfl⟩,hJs.out⟩
end Wd
namespace Wd
open Go.RowKit Lw Tw

theorem own_none {w:World} {B g cap:Nat} {cs:Array Value} (hB:B≤g) (hh:w.heap[g]? = some (.cells cs 68 (0,0))) (hc:cap≤maxLen) (hs:cs.size=cap*4):OwnG 68 4 fcE w B (.slice (some ⟨g,0,none⟩) 0 cap) []:=by
 have lt:=lt_of_block hh
 exact⟨⟨rfl, .inr ⟨g,cap,cs,rfl,hB,hh,Nat.zero_le _,hc,hs,rfl⟩⟩,by omega⟩
theorem grow_two (w:World):Calls Tryz.prog 181 #[.slice none 0 0, .int .i64 2] w fun e w'=>∃ V,e = .returned V∧OwnG 68 4 fcE w' w.heap.size V []∧Below w.heap.size w w':=by
 obtain⟨i0,hi,hz0,hz1,hz2⟩:=info_parts info_fc
 have hr:∀ W,(Builtin.append_ #[131,3] 131 #[.slice none 0 0, .int .i64 2]).run Tryz.prog W=_:=fun W=>Lib.run_append_nil_zeros (P:=Tryz.prog) W 131 3 131 68 i0 _ .i64 .i64 und_fr Tryz.underlying3 hi hz0 2 (by decide) (by rw[hz1];decide) (by decide) (by rw[hz2];decide)
 have hG:∀ W,2≤grownCap W 2 0 68:=fun W=>grownCap_ge W _ _ _
 have hG2:∀ W,grownCap W 2 0 68≤maxLen:=fun W=>grownCap_le_maxLen W 2 0 _ (by decide)
 obtain⟨G,hGe⟩:∃ G,G=grownCap w 2 0 68:=⟨_,rfl⟩
 have h1:=hr w
 have h2:=hG w
 have h3:=hG2 w
 rw[← hGe] at h1 h2 h3
 have h63:G≤9223372036854775807:=by unfold maxLen at h3;omega
 clear hr hG hG2 hGe
 have OW:=Lib.hid (show OwnG 68 4 fcE ((w.alloc (.cells (Builtin.zeroCells #[.bool false, .slice none 0 0, .bool false, .slice none 0 0] 2++Builtin.zeroCells #[.bool false, .slice none 0 0, .bool false, .slice none 0 0] (G-2)) 68)).drew) w.heap.size (.slice (some ⟨w.heap.size,0,none⟩) 0 G) [] from
  own_none (Nat.le_refl _) (World.alloc_heap_new w _) h3 (by
   rw[Array.size_append,size_zeroCells,size_zeroCells,← Nat.add_mul,show 2+(G-2)=G by omega];rfl))
 have BW:=Lib.hid ((Below.refl _ w).alloc (Nat.le_refl _) (.cells (Builtin.zeroCells #[.bool false, .slice none 0 0, .bool false, .slice none 0 0] 2++Builtin.zeroCells #[.bool false, .slice none 0 0, .bool false, .slice none 0 0] (G-2)) 68)).drew
 clear h3 hi hz0 hz1 hz2
 go_enter Tryz.func181,Tryz.ntmps181
 go_wp2_with (at_builtin;refine Lib.wpList_append_run _ rfl _ _ _ _ rfl _ _ rfl rfl _ _ h1 ?_)
 refine bodyPost_ret (results_tmp rfl _ _ _) rfl ?_
 exact⟨_,rfl,OW.out,BW.out⟩
theorem RowF.one {w:World} {B:Nat} {v:Value} {r:Rat} (h:RowF w B v [r]):∃ g cap x,v = .slice (some ⟨g,0,none⟩) 1 cap∧B≤g∧g<w.heap.size∧w.rangeAt g 0 (fcE x)∧FcR w B x r∧Off x (some g):=by
 obtain⟨cs,h1,h2,h3⟩:=h
 match cs,h2 with
 | [x],_ =>
  obtain⟨A,cap,e,hr,hb⟩:=OwnG.form (k:=4) (enc:=fcE) (fun _=>rfl) h1
  obtain⟨g,eg,lt,r0⟩:=hr.row 0 (by simp)
  subst eg
  obtain⟨q1,q2⟩:=h3 0 (by simp) (by simp)
  rw[e] at q2
  exact⟨g,cap,x,e,hb g 0 rfl,lt,r0,q1,q2⟩
theorem concat_any (go c:Nat) (X0 X1:Value) (B:Nat) (r0 r1:Rat) (w:World) (h:w.rangeAt go 0 [X0,X1]) (hgo:go<w.heap.size) (h0:RowF w B X0 [r0]) (h1:RowF w B X1 [r1]) :
  Calls Tryz.prog 124 #[.slice (some ⟨go,0,none⟩) 2 c] w fun e w'=>∃ V,e = .returned V∧RowF w' B V [r0,r1]∧Below w.heap.size w w':=by
 obtain⟨g0,c0,x0,rfl,b0,l0,q0,f0, -⟩:=h0.one
 obtain⟨g1,c1,x1,rfl,b1,l1,q1,f1, -⟩:=h1.one
 have bsz:B≤w.heap.size:=by omega
 obtain⟨rs,hrs⟩:∃ l,l = [r0,r1]:=⟨_,rfl⟩
 have hrl:rs.length=2:=by rw[hrs];rfl
 have HX:=Lib.hid (show ∀ k,(hk:k<2) → ∃ g cap x,w.cell? ⟨go,k,none⟩=some (.slice (some ⟨g,0,none⟩) 1 cap)∧g<w.heap.size∧w.rangeAt g 0 (fcE x)∧FcR w B x (rs.getD k 0) from fun k hk=>by
  subst hrs
  match k,hk with
  | 0,_=>exact⟨g0,c0,x0,h 0 _ rfl,l0,q0,f0⟩
  | 1,_=>exact⟨g1,c1,x1,h 1 _ rfl,l1,q1,f1⟩)
 rw[← hrs]
 have RL:=Lib.hid hrl
 have BS:=Lib.hid bsz
 obtain⟨i0,hi,hz0,hz1,hz2⟩:=info_parts info_fc
 replace hi:=Lib.hid hi
 replace hz0:=Lib.hid hz0
 replace hz1:=Lib.hid hz1
 replace hz2:=Lib.hid hz2
 replace hgo:=Lib.hid hgo
 clear h h0 h1 q0 q1 f0 f1 b0 b1 l0 l1 hrs hrl bsz
 clear g0 g1 c0 c1 x0 x1
 go_enter Tryz.func124,Tryz.ntmps124
 go_wp2_with fail
 go_loopw [3,5,11] (fun s _ i wr=>∃ k:Nat,k≤2∧i = .int .i64 k∧s = .int .i64 k∧w=wr) (fun _ _ i _=>2-(intOf i).toNat)
 case atStart=>exact⟨0,by omega,rfl,rfl,rfl⟩
 case round =>
  obtain⟨k,hk,rfl,rfl,rfl⟩:=hrel
  by_cases hlt:k<2
  ·obtain⟨g,cap,x,cA, -⟩:=HX.out k hlt
   have i1:(k:Int)<2:=by omega
   have i2:¬ (k:Int)+1<0:=by omega
   have i3:IntKind.i64.wrap ((k:Int)+1)=(k:Int)+1:=by rw[IntKind.wrap_i64];omega
   clear HX
   go_wp2_with fail
   go_roundw
   case rel=>exact⟨k+1,by omega,by simp,by simp,trivial⟩
   case measure=>simp[intOf];omega
  ·obtain rfl:k=2:=by omega
   rw[show ((2:Nat):Int)=2 from rfl]
   go_wp2_with fail
   refine(grow_two _).mono ?_
   rintro e w1 ⟨V,rfl,hO,hb⟩
   have O1:=Lib.hid hO
   have B1:=Lib.hid hb
   clear hO hb
   go_wp2_with fail
   go_loopw [6,8,27] (fun v _ i wr=>∃ k:Nat,∃ cs:List Fc,k≤2∧i = .int .i64 k∧Hid (cs.length=k)∧Hid (OwnG 68 4 fcE wr w.heap.size v cs)∧Hid (Below w.heap.size w wr)∧Hid (∀ i (h:i<cs.length) (h2:i<2),FcR w B cs[i] (rs.getD i 0))) (fun _ _ i _=>2-(intOf i).toNat)
   case atStart=>exact⟨0,[],by omega,rfl,Lib.hid rfl,O1,B1,Lib.hid (fun i h=>by simp at h)⟩
   case round =>
    clear O1 B1
    obtain⟨k,cs,hk,rfl,hl,hO,hB,hC⟩:=hrel
    by_cases hlt:k<2
    ·obtain⟨g,cap,x,cA,lt,qx,fx⟩:=HX.out k hlt
     have i1:(k:Int)<2:=by omega
     replace cA:=(hB.out.cell (p:=⟨go,k,none⟩) hgo.out).trans cA
     have QX:=Lib.hid (newsG (rangeAt_below qx hB.out lt))
     have FX:=Lib.hid fx
     obtain⟨A,cp,hv, -, -⟩:=OwnG.form (k:=4) (enc:=fcE) (fun _=>rfl) hO.out
     subst hv
     clear qx fx HX lt
     go_wp2_with (at_builtin;refine wpList_append_own _ rfl _ _ 131 rfl w.heap.size 68 i0 _ 4 64 und_fr hi.out hz0.out hz1.out hz2.out rfl (by decide) _ cs.length (cs.flatMap fcE) rfl hO.out.1 ⟨g,0,none⟩ 1 cap (fcE x) rfl rfl QX.out (fcE_one x) (by rw[hl.out];unfold maxLen;omega) (by rw[hl.out];omega) hB.out.size ?_;intro v' w' g1 g2 _)
     have e:(cs ++ [x]).flatMap fcE=cs.flatMap fcE++fcE x:=by simp
     have hb:=hB.out.grown g2 hB.out.size (fun k hk=>(hO.out.1.lt k hk).1)
     have st:=Lib.hid (show (cs ++ [x]).length=k+1∧OwnG 68 4 fcE w' w.heap.size v' (cs ++ [x])∧Below w.heap.size w w' ∧ ∀ i (h:i<(cs ++ [x]).length) (h2:i<2),FcR w B (cs ++ [x])[i] (rs.getD i 0) from
      ⟨by rw[List.length_append,hl.out];rfl,⟨by rw[e,List.length_append];exact g1,hb.size⟩,hb,fun i h h2=>by
       by_cases q:i<cs.length
       ·rw[List.getElem_append_left q];exact hC.out i q h2
       ·have e2:i=k:=by rw[List.length_append,hl.out] at h;rw[hl.out] at q;simp at h;omega
        have e3:(cs ++ [x])[i]=x:=by rw[List.getElem_append_right (by omega)];simp
        rw[e3]
        subst e2
        exact FX.out⟩)
     clear e hb g1 g2 QX FX hO hC hB hl
     go_wp2_with fail
     go_roundw
     case rel=>exact⟨k+1,cs ++ [x],by omega,by simp,Lib.hid st.out.1,Lib.hid st.out.2.1,Lib.hid st.out.2.2.1,Lib.hid st.out.2.2.2⟩
     case measure=>simp[intOf];omega
    ·obtain rfl:k=2:=by omega
     rw[show ((2:Nat):Int)=2 from rfl]
     have P:=Lib.hid (show RowF wr B _ rs from⟨cs,OwnG.mono hO.out BS.out,by rw[hl.out,RL.out],fun i h h2=>by
      have q:=hC.out i h (by rw[hl.out] at h;exact h)
      rw[show rs.getD i 0=rs[i] by simp[h2]] at q
      refine⟨⟨q.s,q.n.below hB.out,q.d.below hB.out,q.fn,q.fd⟩,fun p b off e=>?_,fun p b off e=>?_⟩
      ·have:=q.n.lt p e
       intro e2
       have:=(hO.out.1.lt b e2.symm).1
       omega
      ·have:=q.d.lt p e
       intro e2
       have:=(hO.out.1.lt b e2.symm).1
       omega⟩)
     clear hO hC HX hl
     go_wp2_with fail
     refine bodyPost_ret (results_tmp rfl _ _ _) rfl ?_
     exact⟨_,rfl,P.out,hB.out⟩
end Wd
namespace Wd
open Go.RowKit Lw Tw Go.Shelf
attribute [local go_sem] Oper.semAt_some

section
variable {P : Program} {ops : Array Oper} {Q : Exit → Act → World → Prop} {C : World → Prop} {l n : Nat}
theorem TillSt.startIn {id:Nat} {a:Act} {w:World} (C:World→Prop) (st:Nat) (hm:P.follows .mixedOrders=true) (hnd:noDefer ops=true) (hL:¬ LetsOut Q) (hC:C w.drew) (h:C w.drew→TillSt P .any ops Q C st ops.size (Array.replicate ops.size false) a w.drew):(Code.region id ops true).wpIn (Fence.wide.inRound l) n P Q a w :=
 wpIn_region_any hm (wpAny_toIn hnd hL _ _ _ _ (TillSt.any _ _ _ _ (h hC)))
end
def NewF (W0:World) (L:List (Nat×List Value)) (lo:World) (r:Rat) (p:Value) (wx:World):Prop :=
 ∃ (b:Nat) (x:Fc),p = .pointer (some ⟨b,0,none⟩)∧lo.heap.size≤b∧Fr W0 ((b,fcE x)::L) wx∧FcR wx lo.heap.size x r∧Off x (some b)∧Below lo.heap.size lo wx
theorem step_rowF1 {ops:Array Oper} {o:Oper} {a:Act} {K:Act→World→Prop} {Q:Exit→Act→World→Prop} {X:Prop} (w:World) (hgd:o.guard=none) (s x:Operand)
  (ho:o.op = .call { callee:=.builtin .append,args:=#[s,x],argTypes:=#[131,131] })
  (B:Nat) (q:Fc) (r:Rat) (hs:a.eval s = .slice none 0 0) (hx:a.eval x = .slice (some ⟨w.heap.size,0,none⟩) 1 1) (hB:B≤w.heap.size) (hq:FcR w B q r)
  (h:∀ A cap w',RowF w' B (.slice A 1 cap) [r]→Below w.heap.size w w'→K (a.put o.dst (.slice A 1 cap)) w') :
  if Region.wanted o (yielded ops a.tmps)=true then Oper.wp Tryz.prog o a (w.alloc (.cells (fcE q).toArray 68)) K Q else X:=by
 refine step_appK und_fr info_fc rfl (by decide) (by decide) (fun _=>rfl) fcE_one w hgd s x ho B (.slice none 0 0) [] q hs hx (OwnG.nil w B hB) (by simp) ?_
 intro v' w' own g hat hb
 have ba:=(Below.refl _ w).alloc (Nat.le_refl _) (.cells (fcE q).toArray 68)
 have bg:Below (w.alloc (.cells (fcE q).toArray 68)).heap.size (w.alloc (.cells (fcE q).toArray 68)) w':=(Below.refl _ _).grown g (Nat.le_refl _) (fun k e=>by cases e)
 have bw:=below_then ba bg
 have lb:∀ b,v'.ownBlock=some b→w.heap.size<b:=fun b e=>by
  rcases hat with e2|e2
  ·rw[e2] at e;cases e
  ·rw[e2] at e
   have:=Option.some.inj e
   omega
 obtain⟨A,cap,ev, -⟩:=OwnG.form (k:=4) (enc:=fcE) (fun _=>rfl) own
 have ev':v' = .slice A 1 cap:=ev
 subst ev'
 refine h A cap w' ⟨[q],own,rfl,fun i hi hi'=>?_⟩ bw
 have e:i=0:=by simp at hi;omega
 subst e
 refine⟨⟨hq.s,hq.n.below bw,hq.d.below bw,hq.fn,hq.fd⟩,fun p b off e e2=>?_,fun p b off e e2=>?_⟩
 ·have:=hq.n.lt p e
  have:=lb b e2.symm
  omega
 ·have:=hq.d.lt p e
  have:=lb b e2.symm
  omega
/-! ### A record that is no cells turns -/
theorem pcell {w:World} {D b j:Nat} {o o':Obj} {v:Value} (h:w.heap[D]? = some o) (ho:o.isCells=false) (hc:w.cell? ⟨b,j,none⟩=some v):(w.putObj D o').cell? ⟨b,j,none⟩=some v:=by
 have hne:b≠D:=by
  rintro rfl
  obtain⟨c,e,fr,hb, -⟩:=Sort.cells_of_cell? hc
  rw[h] at hb
  cases hb
  cases ho
 rw[World.cell?_of_block (w:=w) (World.putObj_heap_other (by omega))]
 exact hc
theorem ne_rec {w:World} {b j D:Nat} {v:Value} {o:Obj} (h:w.cell? ⟨b,j,none⟩=some v) (hD:w.heap[D]? = some o) (ho:o.isCells=false):b≠D:=by
 rintro rfl
 obtain⟨c,e,fr,hb, -⟩:=Sort.cells_of_cell? h
 rw[hD] at hb
 cases hb
 cases ho
theorem rangeAt_putObj {w:World} {b o n D:Nat} {vs:List Value} {ob o':Obj} (h:w.rangeAt b o vs) (hD:w.heap[D]? = some ob) (ho:ob.isCells=false):(w.putObj D o').rangeAt b o vs:=fun j v hv=>pcell hD ho (h j v hv)
theorem below_putObj {n:Nat} (w:World) (D:Nat) (o o':Obj) (hn:n≤D) (hD:w.heap[D]? = some o):Below n w (w.putObj D o') :=
 (Below.refl n w).grown (grownBy_putObj' w D o') (by have:=(Array.getElem?_eq_some_iff.1 hD).1;omega) (fun k e=>by cases e;omega)
theorem Fr.putObj {w0 w:World} {L:List (Nat×List Value)} (h:Fr w0 L w) {D:Nat} {o:Obj} (o':Obj) (hn:w0.heap.size≤D) (hD:w.heap[D]? = some o) (ho:o.isCells=false):Fr w0 L (w.putObj D o'):=by
 refine⟨h.below.trans (below_putObj w D o o' hn hD),h.lo,fun p hp=>by rw[World.putObj_size];exact h.hi p hp,h.nd,fun p hp=>rangeAt_putObj (n:=0) (h.row p hp) hD ho,fun p hp j hj=>?_⟩
 obtain⟨h1,h2⟩:=h.th p hp j hj
 obtain⟨v,hv⟩:=Option.isSome_iff_exists.1 h1
 have hne:p.1≠D:=ne_rec hv hD ho
 have e:(w.putObj D o').heap[p.1]? = w.heap[p.1]?:=World.putObj_heap_other hne
 exact⟨by rw[World.cell?_of_block (a:=⟨p.1,0+j,none⟩) e];exact h1,by rw[World.frozen?_of_block (a:=⟨p.1,0+j,none⟩) e];exact h2⟩
theorem Lim.putObj {w:World} {a:Option Addr} {n cap:Nat} {l:List Nat} (h:Lim w a n cap l) {D:Nat} {o:Obj} (o':Obj) (hD:w.heap[D]? = some o) (ho:o.isCells=false):Lim (w.putObj D o') a n cap l :=
 ⟨h.len,h.lb,h.cp,h.sm,fun p=>by
  obtain⟨b,off,e,lt,r⟩:=h.row p
  exact⟨b,off,e,by rw[World.putObj_size];exact lt,rangeAt_putObj (n:=0) r hD ho⟩⟩
theorem RowF.putObj {w:World} {B:Nat} {v:Value} {rs:List Rat} (h:RowF w B v rs) {D:Nat} {o:Obj} (o':Obj) (hD:w.heap[D]? = some o) (ho:o.isCells=false):RowF (w.putObj D o') B v rs:=by
 obtain⟨cs,h1,h2,h3⟩:=h
 exact⟨cs,⟨ownsRow_putObj h1.1 o' hD ho,by rw[World.putObj_size];exact h1.2⟩,h2,fun i hi hi'=>⟨⟨(h3 i hi hi').1.s,(h3 i hi hi').1.n.putObj o' hD ho,(h3 i hi hi').1.d.putObj o' hD ho,(h3 i hi hi').1.fn,(h3 i hi hi').1.fd⟩,(h3 i hi hi').2⟩⟩
/-! ### The rows behind the elimination -/
structure RowsE (w:World) (gr:Nat) (R:Nat→Nat) (Z:Nat→Nat→Int):Prop where
 lt:gr<w.heap.size
 hd:∀ i,i<2→w.cell? ⟨gr,i,none⟩=some (.slice (some ⟨R i,0,none⟩) 3 3)
 rl:∀ i,i<2→R i<w.heap.size
 el:∀ i j,i<2→j<3 → ∃ xa xk xc,w.cell? ⟨R i,j*2,none⟩=some (.bool (decide (Z i j<0)))∧w.cell? ⟨R i,j*2+1,none⟩=some (.slice xa xk xc)∧Lim w xa xk xc (canon (Z i j).natAbs)
theorem RowsE.below {w w':World} {gr:Nat} {R:Nat→Nat} {Z:Nat→Nat→Int} (h:RowsE w gr R Z) (hb:Below w.heap.size w w'):RowsE w' gr R Z :=
 ⟨Nat.lt_of_lt_of_le h.lt hb.size,fun i hi=>(hb.cell (p:=⟨gr,i,none⟩) h.lt).trans (h.hd i hi),fun i hi=>Nat.lt_of_lt_of_le (h.rl i hi) hb.size,fun i j hi hj=>by
  obtain⟨xa,xk,xc,e1,e2,e3⟩:=h.el i j hi hj
  exact⟨xa,xk,xc,(hb.cell (p:=⟨R i,j*2,none⟩) (h.rl i hi)).trans e1,(hb.cell (p:=⟨R i,j*2+1,none⟩) (h.rl i hi)).trans e2,e3.below hb⟩⟩
theorem RowsE.at {w W:World} {gr:Nat} {R:Nat→Nat} {Z:Nat→Nat→Int} (h:RowsE w gr R Z) (hb:Below w.heap.size w W) (i j:Nat) (hi:i<2) (hj:j<3):∃ xa xk xc,∀ w',Below W.heap.size W w'→w'.cell? ⟨R i,j*2,none⟩=some (.bool (decide (Z i j<0)))∧w'.cell? ⟨R i,j*2+1,none⟩=some (.slice xa xk xc)∧Lim w' xa xk xc (canon (Z i j).natAbs):=by
 obtain⟨xa,xk,xc,e1,e2,e3⟩:=(h.below hb).el i j hi hj
 have lt:=(h.below hb).rl i hi
 exact⟨xa,xk,xc,fun w' hw=>⟨(hw.cell (p:=⟨R i,j*2,none⟩) lt).trans e1,(hw.cell (p:=⟨R i,j*2+1,none⟩) lt).trans e2,e3.below hw⟩⟩
def rowsR (r0 r1:Nat) (i:Nat):Nat:=if i=0 then r0 else r1
def rowsZ (A B:List Int) (i j:Nat):Int:=(if i=0 then A else B).getD j 0
theorem elim_rows {W0 w2 W1 w3:World} {gr r0 r1:Nat} {A B:List Int} {Bf:Nat→Nat} (hg:w2.rangeAt gr 0 [.slice (some ⟨r0,0,none⟩) 3 3, .slice (some ⟨r1,0,none⟩) 3 3]) (hgl:gr<w2.heap.size) (hgr:gr≠r1) (h0:RowW W0 r0 A) (hA:A.length=3) (hW:W0.heap.size≤r1) (hr1:r1<w2.heap.size)
  (hk:∀ b,r0≤b→b<W0.heap.size→w2.heap[b]? = W0.heap[b]?) (hx:Ex r1 w2 W1) (hb:Below W1.heap.size W1 w3) (hR:RowV w3 r1 Bf B) (hB:B.length=3):RowsE w3 gr (rowsR r0 r1) (rowsZ A B):=by
 have hs:w2.heap.size≤w3.heap.size:=by have:=hb.size;rw[hx.size] at this;exact this
 have l0:=h0.lt
 refine⟨by omega,fun i hi=>?_,fun i hi=>?_,fun i j hi hj=>?_⟩
 ·rw[hx.cell hb (p:=⟨gr,i,none⟩) hgr hgl]
  match i,hi with
  | 0,_=>exact hg 0 _ rfl
  | 1,_=>exact hg 1 _ rfl
 ·match i,hi with
  | 0,_=>show r0<_;omega
  | 1,_=>show r1<_;omega
 ·match i,hi with
  | 0,_ =>
   obtain⟨x,es,ek, -,hat⟩:=h0.at1 hW hr1 hk (j:=j) (by omega)
   obtain⟨e0,e1,e2⟩:=hat W1 w3 hx hb
   have ez:rowsZ A B 0 j=A[j]:=by simp[rowsZ,show j<A.length by omega]
   rw[ez]
   exact⟨x.a,x.k,x.c,by rw[← es];exact e0,e1,e2⟩
  | 1,_ =>
   obtain⟨x,q0,q1, -, -,hw⟩:=hR.cell (i:=j) (by omega)
   have ez:rowsZ A B 1 j=B[j]:=by simp[rowsZ,show j<B.length by omega]
   rw[ez]
   exact⟨x.a,x.k,x.c,by rw[← hw.s];exact q0,q1,hw.n⟩
/-! ### The rows of the result so far -/
abbrev bkL (bo gr c:Nat) (X0 X1:Value):List (Nat×List Value):=[(bo+1+1,[.slice (some ⟨gr,0,none⟩) 2 c]),(bo+1,[.slice (some ⟨bo,0,none⟩) 2 2]),(bo,[X0,X1])]
def OutI (W0:World) (bo gr c lo:Nat) (x0 x1:Rat) (k:Nat) (W:World):Prop :=
 ∃ X0 X1,Fr W0 (bkL bo gr c X0 X1) W∧(k<2→X0 = .slice none 0 0)∧(k=0→X1 = .slice none 0 0)∧(0<k→RowF W lo X1 [x1])∧(1<k→RowF W lo X0 [x0])
theorem OutI.putObj {W0:World} {bo gr c lo:Nat} {x0 x1:Rat} {k:Nat} {W:World} (h:OutI W0 bo gr c lo x0 x1 k W) {D:Nat} {o:Obj} (o':Obj) (hn:W0.heap.size≤D) (hD:W.heap[D]? = some o) (ho:o.isCells=false):OutI W0 bo gr c lo x0 x1 k (W.putObj D o'):=by
 obtain⟨X0,X1,h1,h2,h3,h4,h5⟩:=h
 exact⟨X0,X1,Fr.putObj h1 o' hn hD ho,h2,h3,fun q=>(h4 q).putObj o' hD ho,fun q=>(h5 q).putObj o' hD ho⟩
theorem OutI.step {W0:World} {bo gr c:Nat} {x0 x1:Rat} {k:Nat} {W w':World} {v':Value} (h:OutI W0 bo gr c (bo+3) x0 x1 k W) (hk:k<2) (h0:W0.heap.size≤bo) (hb:Below W.heap.size W w') (hv:RowF w' W.heap.size v' [if k=0 then x1 else x0]) :
  OutI W0 bo gr c (bo+3) x0 x1 (k+1) (w'.setCell ⟨bo,1-k,none⟩ v')∧KeepB W0.heap.size (bo+1+1) W (w'.setCell ⟨bo,1-k,none⟩ v') ∧ ∀ n,bo<n→KeepsFrom n W (w'.setCell ⟨bo,1-k,none⟩ v'):=by
 obtain⟨X0,X1,h1,h2,h3,h4,h5⟩:=h
 have lb:=(h1.least 0 rfl).2
 have ho:∀ b,b≠bo→(w'.setCell ⟨bo,1-k,none⟩ v').heap[b]? = w'.heap[b]?:=fun b q=>heap_other q
 have hz:(w'.setCell ⟨bo,1-k,none⟩ v').heap.size=w'.heap.size:=by simp
 have F1:=(h1.call hb).put1 2 rfl (1-k) v' (by simp;omega)
 have kv:∀ {B v rs},bo<B→RowF w' B v rs→RowF (w'.setCell ⟨bo,1-k,none⟩ v') B v rs:=fun q r=>r.kept (by rw[hz];exact Nat.le_refl _) (fun b g1 g2=>ho b (by omega))
 have hv2:=kv (by omega) (hv.mono (B':=bo+3) (by omega))
 refine⟨?_,⟨⟨?_,?_,?_,?_,?_⟩,?_⟩,fun n hn=>⟨?_,?_⟩⟩
 ·rcases(show k=0∨k=1 by omega) with rfl|rfl
  ·exact⟨X0,v',F1,fun _=>h2 (by omega),fun q=>absurd q (by omega),fun _=>hv2,fun q=>absurd q (by omega)⟩
  ·exact⟨v',X1,F1,fun q=>absurd q (by omega),fun q=>absurd q (by omega),fun _=>kv (by omega) ((h4 (by omega)).below hb),fun _=>hv2⟩
 ·exact hb.os
 ·exact hb.tape
 ·exact hb.output
 ·rw[hz];exact hb.size
 ·intro b q;exact(ho b (by omega)).trans (hb.block b (by have:=(h1.least 2 rfl).1;have:=(h1.least 2 rfl).2;omega))
 ·exact(ho _ (by omega)).trans (hb.block _ lb)
 ·rw[hz];exact hb.size
 ·intro b o q e _
  have lt:=(Array.getElem?_eq_some_iff.1 e).1
  exact((ho b (by omega)).trans (hb.block b lt)).trans e
def BackPost (x0 x1:Rat) (w:World) (e:Ending) (w':World):Prop :=
 ∃ g X0 X1,e = .returned (.tuple #[.slice (some ⟨g,0,none⟩) 2 2, .bool true])∧g<w'.heap.size∧w'.rangeAt g 0 [X0,X1]∧RowF w' w.heap.size X0 [x0]∧RowF w' w.heap.size X1 [x1]∧Below w.heap.size w w'
end Wd
end Go.Proofs.YtdnogmanbdgadaaGreatDoor
