/-
  Lemmas and walks, texts joined: QLeast.
-/
import Derived.Test.YtdnogmanbdgadaaGreatDoorTb36
import Derived.Test.YtdnogmanbdgadaaGreatDoorTb37
set_option linter.unusedSimpArgs false
set_option linter.unusedVariables false
set_option maxRecDepth 100000
set_option maxHeartbeats 40000000
namespace Go.Proofs.YtdnogmanbdgadaaGreatDoor
namespace Wd
open Go.RowKit Lw Tw

def LeastPost (p0 p1:Rat) (w:World) (e:Ending) (w':World):Prop:=∃ X S s,e = .returned (.tuple #[X, .agg (fcE S).toArray, .int .i64 0])∧RowF w' w.heap.size X [p0,p1]∧FcR w' 0 S s∧Below w.heap.size w w'
def LSt (w Wx:World) (k:Nat) (wr:World):Prop:=∃ (s:Rat) (S:Fc),FS w Wx [⟨w.heap.size,S,s⟩] wr∧FL s (1+98*k)
theorem ret_row_cell_tmp {fn:Func} {u p v:Tmp} {ty:TypeId} (h:fn.results = #[.tmp u, .cell p ty, .tmp v]) (tmps:Array Value) (w:World) (b:Nat) (cs:List Value) (d:TypeDesc)
  (hp:tmps.getD p undef = .pointer (some ⟨b,0,none⟩)) (hr:w.rangeAt b 0 cs) (hn:Tryz.prog.underlying ty=some d) (hd:d.isRow=true) (hi:(Tryz.prog.info? ty).map (·.size)=some cs.length) :
  (results fn tmps).run Tryz.prog w = .ok (.tuple #[tmps.getD u undef, .agg cs.toArray,tmps.getD v undef]) w:=by
 have hp':tmps[p]?.getD undef = .pointer (some ⟨b,0,none⟩):=by simpa using hp
 simp[results,h,hp',asAddr,run_loadVar_mid w b 0 ty cs d hr hn hd hi,Result.andThen]
theorem least_any (V1 V2 V3:Value) (ts vs:List Int) (w:World) (h1:R2 w V1 ts) (h2:I6 w V2 vs) (h3:I6 w V3 (List.replicate ts.length 1)) (hl:vs.length=ts.length) (hn:ts.length≤9) (hD:0<Ls.D (Mo.tF ts) ts.length)
  (ht:∀ x∈ts, -1099511627776≤x∧x≤1099511627776) (hv:∀ x∈vs, -1099511627776≤x∧x≤1099511627776) :
  Calls Tryz.prog 78 #[V1,V2,V3] w (LeastPost (Ls.x0 (Mo.tF ts) (Mo.tF vs) ts.length) (Ls.x1 (Mo.tF ts) (Mo.tF vs) ts.length) w):=by
 have h0:0<ts.length:=by
  rcases Nat.eq_zero_or_pos ts.length with e|e
  ·rw[e] at hD;simp[Ls.D,Ls.S] at hD
  ·exact e
 obtain⟨A1,cp1,_,rfl, -⟩:=id h1
 obtain⟨A2,cp2,rfl, -⟩:=id h2
 obtain⟨A3,cp3,rfl, -⟩:=id h3
 have F0:=(Fr.start w).alloc (frV false none 0 0 false none 0 0) 68
 have SY:=Lib.hid (system_any _ _ _ ts vs _ (h1.below F0.below) (h2.below F0.below) (by rw[List.map_const'];exact h3.below F0.below) hl h0 (by omega) ht hv)
 have NO:=Lib.hid (fun w' (hb:Below w.heap.size w w')=>normal_any _ _ _ ts vs w' (h1.below hb) (h2.below hb) (h3.below hb) hl h0 (by omega) ht hv)
 have bt:=fun i hi=>tF_bd ht i hi
 have bv:=fun i (hi:i<ts.length)=>tF_bd hv i (by omega)
 have b1:∀ i,i<ts.length→(Ls.one i).natAbs≤1099511627776:=fun i _=>by show (1:Int).natAbs≤_;omega
 have sum:=fun (a b:Nat→Int) (ha:∀ i,i<ts.length→(a i).natAbs≤1099511627776) (hb:∀ i,i<ts.length→(b i).natAbs≤1099511627776)=>S_len (n:=ts.length) (by omega) ha hb
 obtain⟨Ma,hMa⟩:∃ M:Nat→List Int,M=fun i=>if i=0 then[Ls.S Ls.one Ls.one ts.length,Ls.S Ls.one (Mo.tF ts) ts.length,Ls.S Ls.one (Mo.tF vs) ts.length] else[Ls.S (Mo.tF ts) Ls.one ts.length,Ls.S (Mo.tF ts) (Mo.tF ts) ts.length,Ls.S (Mo.tF ts) (Mo.tF vs) ts.length]:=⟨_,rfl⟩
 have hM0:Ma 0 = [Ls.S Ls.one Ls.one ts.length,Ls.S Ls.one (Mo.tF ts) ts.length,Ls.S Ls.one (Mo.tF vs) ts.length]:=by rw[hMa];rfl
 have hM1:Ma 1 = [Ls.S (Mo.tF ts) Ls.one ts.length,Ls.S (Mo.tF ts) (Mo.tF ts) ts.length,Ls.S (Mo.tF ts) (Mo.tF vs) ts.length]:=by rw[hMa];rfl
 have hrow:∀ i,i<2→nRow ts vs i=(Ma i).map fun z:Int=>((z:Int):Rat):=fun i hi=>by
  match i,hi with
  | 0,_=>rw[hM0];rfl
  | 1,_=>rw[hM1];rfl
 have hS1:0<Ls.S Ls.one Ls.one ts.length:=by rw[Ls.S_one];omega
 have hlim:∀ z ∈ [Ls.S Ls.one Ls.one ts.length,Ls.S Ls.one (Mo.tF ts) ts.length,Ls.S Ls.one (Mo.tF vs) ts.length,Ls.S (Mo.tF ts) Ls.one ts.length,Ls.S (Mo.tF ts) (Mo.tF ts) ts.length,Ls.S (Mo.tF ts) (Mo.tF vs) ts.length],(canon z.natAbs).length≤20:=fun z hz=>by
  simp only[List.mem_cons,List.not_mem_nil,or_false] at hz
  rcases hz with rfl|rfl|rfl|rfl|rfl|rfl
  ·exact Nat.le_trans (sum _ _ b1 b1) (by decide)
  ·exact Nat.le_trans (sum _ _ b1 bt) (by decide)
  ·exact Nat.le_trans (sum _ _ b1 bv) (by decide)
  ·exact Nat.le_trans (sum _ _ bt b1) (by decide)
  ·exact Nat.le_trans (sum _ _ bt bt) (by decide)
  ·exact Nat.le_trans (sum _ _ bt bv) (by decide)
 have hlen:∀ i,(Ma i).length=3:=fun i=>by rw[hMa];dsimp only;split <;> rfl
 have hlm:∀ i,∀ z∈Ma i,(canon z.natAbs).length≤900:=fun i z hz=>by
  rw[hMa] at hz
  dsimp only at hz
  refine Nat.le_trans (hlim z ?_) (by decide)
  split at hz
  ·simp only[List.mem_cons,List.not_mem_nil,or_false] at hz ⊢
   rcases hz with h|h|h <;> simp[h]
  ·simp only[List.mem_cons,List.not_mem_nil,or_false] at hz ⊢
   rcases hz with h|h|h <;> simp[h]
 have hdet:0<Ls.S (Mo.tF ts) (Mo.tF ts) ts.length*Ls.S Ls.one Ls.one ts.length-Ls.S (Mo.tF ts) Ls.one ts.length*Ls.S Ls.one (Mo.tF ts) ts.length:=by
  rw[Ls.S_comm (Mo.tF ts) Ls.one];exact hD
 obtain⟨p0,hp0⟩:∃ q:Rat,q=Ls.x0 (Mo.tF ts) (Mo.tF vs) ts.length:=⟨_,rfl⟩
 obtain⟨p1,hp1⟩:∃ q:Rat,q=Ls.x1 (Mo.tF ts) (Mo.tF vs) ts.length:=⟨_,rfl⟩
 obtain⟨L0,L1⟩:=sol_len hl (by omega) ht hv hD h0
 rw[← hp0] at L0
 rw[← hp1] at L1
 have BA:=Lib.hid (fun g X Y w' (h:Mat w' g X Y Ma)=>back_any g 2 X Y Ma _ _ _ _ _ _ w' h hM0 hM1 hS1 hdet hlim p0 p1 (by rw[hp1,Ls.x1,Ls.E,Ls.D,Ls.S_comm (Mo.tF ts) Ls.one]) (by rw[hp0,Ls.x0,hp1]))
 have HR:=Lib.hid hrow
 have HLN:=Lib.hid hlen
 have HLM:=Lib.hid hlm
 have R1:=Lib.hid h1
 have R2':=Lib.hid h2
 have R3:=Lib.hid h3
 have HT:=Lib.hid ht
 have HV:=Lib.hid hv
 have HL:=Lib.hid hl
 have HN:=Lib.hid hn
 have FLX0:=Lib.hid L0
 have FLX1:=Lib.hid L1
 have HP0:=Lib.hid hp0
 have HP1:=Lib.hid hp1
 rw[← hp0,← hp1]
 replace F0:=Lib.hid F0
 clear h1 h2 h3 ht hv hl hn hD bt bv b1 sum hrow hS1 hlim hlen hlm hdet L0 L1 hp0 hp1 hM0 hM1 hMa h0
 obtain⟨n,hn⟩:∃ n,n=ts.length:=⟨_,rfl⟩
 simp only[HL.out,List.length_replicate,← hn] at SY NO R1 R2' R3 ⊢
 replace hn:=Lib.hid hn
 go_enter Tryz.func78,Tryz.ntmps78
 go_wp2_with fail
 refine SY.out.mono ?_
 rintro e w1 ⟨rfl,hb⟩
 have F1:=Lib.hid (F0.out.call hb)
 clear hb F0 SY
 go_wp2_with fail
 refine(NO.out _ F1.out.below).mono ?_
 rintro e w2 ⟨g,X,Y,rfl,hg1,hg2,hgr,hX,hY,hb⟩
 have F2:=Lib.hid (F1.out.call hb)
 have HB:=Lib.hid (BA.out g X Y w2 ⟨hgr,hg2,(by rw[HR.out 0 (by omega)] at hX;exact hX.mono (Nat.zero_le _)),(by rw[HR.out 1 (by omega)] at hY;exact hY.mono (Nat.zero_le _)),HLN.out,HLM.out⟩)
 have s1:=F1.out.below.size
 clear hgr hX hY hb F1 NO BA HR HLN HLM hg1 hg2
 go_wp2_with fail
 refine HB.out.mono ?_
 rintro e w3 ⟨g3,X0,X1,rfl,hg3,hr3,hX0,hX1,hb⟩
 have F3:=Lib.hid (F2.out.call hb)
 have lo2:=(F2.out.least 0 rfl).2
 have HC:=Lib.hid (concat_any g3 2 X0 X1 w2.heap.size p0 p1 w3 hr3 hg3 hX0 hX1)
 clear hb F2 HB hg3 hr3 hX0 hX1
 go_wp2_with fail
 refine HC.out.mono ?_
 rintro e w4 ⟨V,rfl,hV,hb⟩
 have F4:=Lib.hid (F3.out.call hb)
 have HX:=Lib.hid (hV.mono (B':=w.heap.size+1) (by omega))
 clear hb F3 HC hV lo2 s1
 go_wp2_with fail
 refine(of_any 0 1 _ (by decide) (by decide) (by decide) (by decide)).mono ?_
 rintro e w5 ⟨V5,rfl,hV5,hb⟩
 obtain⟨y5,rfl,hy5⟩:=hV5.cells
 replace hy5:FcR w5 w4.heap.size y5 ((0:Int):Rat):=hy5
 have lo4:=(F4.out.least 0 rfl).2
 have FF:=F4.out.call hb
 have c0:=FF.cell 0 0 rfl rfl
 have c1:=FF.cell 0 1 rfl rfl
 have c2:=FF.cell 0 2 rfl rfl
 have c3:=FF.cell 0 3 rfl rfl
 have f0:=FF.fz 0 0 rfl rfl
 have f1:=FF.fz 0 1 rfl rfl
 have f2:=FF.fz 0 2 rfl rfl
 have f3:=FF.fz 0 3 rfl rfl
 have PP:=FF.put 0 rfl (fcE y5) rfl
 have LXX:LX w w4 w5:=⟨hb.size,fun b g1 g2=>hb.block b g2⟩
 have st:=Lib.hid (show LSt w w4 0 _ from⟨_,y5,⟨PP,LXX.set (Or.inl rfl) 0 (fcE y5),fun p hp=>(by
   rw[List.mem_singleton.1 hp];exact(hy5.set (hy5.newer (by omega)) 0 (fcE y5)).mono (Nat.zero_le _)),fun p hp q hq=>(by
   rw[List.mem_singleton.1 hp,List.mem_singleton.1 hq];exact hy5.newer (by omega)),fun p hp=>Or.inl (by rw[List.mem_singleton.1 hp])⟩,by
  exact FL.int (by rw[show (0:Int).natAbs=0 from rfl,canon_zero];exact Nat.zero_le _) (by decide)⟩)
 clear hV5 hy5 hb FF PP LXX F4 lo4
 go_wp2_with fail
 clear c0 c1 c2 c3 f0 f1 f2 f3
 obtain⟨gX,cX,xa,xb,rfl,hBX,ltX,qX0,qX1,fX0,fX1, -, -⟩:=HX.out.two
 have XJ:=Lib.hid (show ∀ j,j<2 → ∃ (x:Fc) (r:Rat),FL r 20 ∧ ∀ wr,LX w w4 wr→wr.rangeAt gX (j*4) (fcE x)∧FcR wr (w.heap.size+1) x r from fun j hj=>by
  match j,hj with
  | 0,_=>exact⟨xa,p0,FLX0.out,fun wr h=>⟨h.rng (by omega) ltX qX0,h.fc fX0⟩⟩
  | 1,_=>exact⟨xb,p1,FLX1.out,fun wr h=>⟨h.rng (by omega) ltX qX1,h.fc fX1⟩⟩)
 clear hBX ltX qX0 qX1 fX0 fX1
 have n9:(n:Int)≤9:=by have:=HN.out;have:=hn.out;omega
 go_loopw [13,14,15,16,17,18,19,20,21,22,53] (fun _ _ _ _ _ _ _ _ _ _ i wr=>∃ k:Nat,k≤n∧i = .int .i64 k∧LSt w w4 k wr) (fun _ _ _ _ _ _ _ _ _ _ i _=>n-(intOf i).toNat)
 case atStart=>exact⟨0,by omega,rfl,st.out⟩
 case round =>
  clear st
  obtain⟨k,hk,rfl,hS⟩:=hrel
  obtain⟨s,S,hT,hfs⟩:=hS
  have T:=Lib.hid hT
  clear hT
  by_cases hkn:k<n
  ·have i1:(k:Int)<(n:Int):=by omega
   have hkt:k<ts.length:=by rw[← hn.out];exact hkn
   have hkv:k<vs.length:=by rw[HL.out,← hn.out];exact hkn
   obtain⟨gA,a,ca,rfl, -,ltA,cA,hI⟩:=R1.out.cell hkt
   obtain⟨gV,rfl,ltV,cV⟩:=R2'.out.cell hkv
   obtain⟨gW,rfl,ltW,cW⟩:=R3.out.cell (i:=k) (by rw[List.length_replicate];exact hkn)
   rw[List.getElem_replicate] at cW
   obtain⟨ga,rfl,ltE,cE0⟩:=hI.cell (i:=0) (by simp)
   obtain⟨ga',ea, -,cE1⟩:=hI.cell (i:=1) (by simp)
   cases ea
   have tb:=HT.out _ (List.getElem_mem hkt)
   have vb:=HV.out _ (List.getElem_mem hkv)
   have RE:=Lib.hid (show ∀ j,j<2 → ∃ y:Int,(-1099511627776≤y∧y≤1099511627776) ∧ ∀ w',Below w.heap.size w w'→w'.cell? ⟨ga,j,none⟩=some (.int .i64 y) from fun j hj=>by
    match j,hj with
    | 0,_=>exact⟨1,by omega,fun w' hb=>(hb.cell (p:=⟨ga,0,none⟩) ltE).trans cE0⟩
    | 1,_=>exact⟨_,tb,fun w' hb=>(hb.cell (p:=⟨ga,1,none⟩) ltE).trans cE1⟩)
   have WB:=Lib.hid (fun w' (hb:Below w.heap.size w w')=>(hb.cell (p:=⟨gW,k,none⟩) ltW).trans cW)
   replace cA:=(T.out.fr.below.cell (p:=⟨gA,k,none⟩) ltA).trans cA
   replace cV:=(T.out.fr.below.cell (p:=⟨gV,k,none⟩) ltV).trans cV
   obtain⟨xv,hxv⟩:∃ x,x=vs[k]:=⟨_,rfl⟩
   rw[← hxv] at cV vb
   replace hfs:=Lib.hid hfs
   have VB:=Lib.hid vb
   clear hxv hI cE0 cE1 tb ltA ltV ltW ltE cW vb
   go_wp2_with fail
   refine(of_any xv 1 _ (by have:=VB.out;omega) (by have:=VB.out;omega) (by decide) (by decide)).mono ?_
   rintro e wo ⟨Vo,rfl,hVo,hb⟩
   obtain⟨d0,rfl,hz⟩:=hVo.cells
   rw[show Int.toNat 1=1 from rfl,Rat.mkRat_one] at hz
   have TN:=Lib.hid (T.out.new hb hz)
   go_wp2_with fail
   obtain⟨b5,hbx⟩:∃ b,b=wo.heap.size:=⟨_,rfl⟩
   obtain⟨wn,hwn⟩:∃ W,W=wo.alloc (.cells #[.bool d0.s, .slice d0.a d0.k d0.c, .bool false, .slice d0.a' d0.k' d0.c'] 68):=⟨_,rfl⟩
   rw[← hbx,← hwn]
   replace TN:Hid (FS w w4 (⟨b5,d0,((xv:Int):Rat)⟩ :: [⟨w.heap.size,S,s⟩]) wn):=by rw[hwn,hbx];exact TN
   clear hVo hz hb hbx hwn T
   have T:=TN
   clear TN
   clear cA cV
   have D0:=Lib.hid (show ∃ (d:Rat) (D:Fc),FS w w4 [⟨b5,D,d⟩,⟨w.heap.size,S,s⟩] wn∧FL d (2+23*0) from⟨_,d0,T.out,FL.int (canon_len 2 _ (by have:=VB.out;omega)) (by decide)⟩)
   clear T VB
   go_loopw [17,18,19,20,68] (fun _ _ _ _ jv wz=>∃ j:Nat,j≤2∧jv = .int .i64 j∧Hid (∃ (d:Rat) (D:Fc),FS w w4 [⟨b5,D,d⟩,⟨w.heap.size,S,s⟩] wz∧FL d (2+23*j))) (fun _ _ _ _ jv _=>2-(intOf jv).toNat)
   case atStart=>exact⟨0,by omega,rfl,D0⟩
   case round =>
    clear D0
    obtain⟨j,hj,rfl,hd⟩:=hrel
    obtain⟨d,D,hT,hfd⟩:=hd.out
    have T:=Lib.hid hT
    replace hfd:=Lib.hid hfd
    clear hd hT
    by_cases hj2:j<2
    ·have j1:(j:Int)<2:=by omega
     obtain⟨y,yb,hy⟩:=RE.out j hj2
     have cy:=hy _ T.out.fr.below
     have YB:=Lib.hid yb
     clear hy yb
     go_wp2_with fail
     refine(of_any y 1 _ (by have:=YB.out;omega) (by have:=YB.out;omega) (by decide) (by decide)).mono ?_
     rintro e wo ⟨Vo,rfl,hVo,hb⟩
     obtain⟨f9,rfl,hz⟩:=hVo.cells
     rw[show Int.toNat 1=1 from rfl,Rat.mkRat_one] at hz
     have TN:=Lib.hid (T.out.new hb hz)
     go_wp2_with fail
     obtain⟨b9,hbx⟩:∃ b,b=wo.heap.size:=⟨_,rfl⟩
     obtain⟨wn,hwn⟩:∃ W,W=wo.alloc (.cells #[.bool f9.s, .slice f9.a f9.k f9.c, .bool false, .slice f9.a' f9.k' f9.c'] 68):=⟨_,rfl⟩
     rw[← hbx,← hwn]
     replace TN:Hid (FS w w4 (⟨b9,f9,((y:Int):Rat)⟩ :: [⟨b5,D,d⟩,⟨w.heap.size,S,s⟩]) wn):=by rw[hwn,hbx];exact TN
     clear hVo hz hb hbx hwn T
     have T:=TN
     clear TN
     clear cy
     obtain⟨xj,r,hr,hX⟩:=XJ.out j hj2
     have XX:=Lib.hid hX
     obtain⟨yq,hyq⟩:∃ q:Rat,q=(y:Rat):=⟨_,rfl⟩
     rw[← hyq] at T
     have FY:FL yq 2:=by rw[hyq];exact FL.int (canon_len 2 _ (by have:=YB.out;omega)) (by decide)
     have MU:=Lib.hid (fun V1 V2 w' (h1:FracR 0 w' V1 yq) (h2:FracR 0 w' V2 r)=>fmul_any V1 V2 yq r w' h1 h2 (FY.mono (by decide)) (hr.mono (by decide)))
     obtain⟨pr,hpr⟩:∃ q:Rat,q=yq*r:=⟨_,rfl⟩
     have FP:FL pr 22:=by rw[hpr];exact FY.mul hr
     rw[← hpr] at MU
     have FD:FL (d-pr) (2+23*(j+1)):=(hfd.out.sub FP).mono (by omega)
     replace FP:=Lib.hid FP
     replace FD:=Lib.hid FD
     clear hX hr hyq FY hpr YB
     replace T:=Lib.hid T.out.drew
     refine TillSt.start (fun w'=>(w'.cell? ⟨b9,0,none⟩=some (.bool f9.s)∧w'.cell? ⟨b9,1,none⟩=some (.slice f9.a f9.k f9.c)∧w'.cell? ⟨b9,2,none⟩=some (.bool false)∧w'.cell? ⟨b9,3,none⟩=some (.slice f9.a' f9.k' f9.c'))∧(w'.cell? ⟨gX,j*4,none⟩=some (.bool xj.s)∧w'.cell? ⟨gX,j*4+1,none⟩=some (.slice xj.a xj.k xj.c)∧w'.cell? ⟨gX,j*4+2,none⟩=some (.bool false)∧w'.cell? ⟨gX,j*4+3,none⟩=some (.slice xj.a' xj.k' xj.c'))) 9 (by kernel_rfl) (⟨⟨T.out.cell 0 0 rfl rfl,T.out.cell 0 1 rfl rfl,T.out.cell 0 2 rfl rfl,T.out.cell 0 3 rfl rfl⟩,(XX.out _ T.out.lx).1 0 _ rfl,(XX.out _ T.out.lx).1 1 _ rfl,(XX.out _ T.out.lx).1 2 _ rfl,(XX.out _ T.out.lx).1 3 _ rfl⟩) (fun hHeld=>?_)
     generalize wn.drew=wd at *
     refine TillSt.tL 0 hHeld (hy:=Or.inl ⟨by rfl,by intro w hSw;obtain⟨⟨q1,q2,q3,q4⟩, -⟩:=hSw;go_simp;try with_reducible rfl⟩) (h:=?_)
     refine TillSt.tP 1 (fun _=>hHeld) ?_
     refine TillSt.tP 2 (fun _=>hHeld) ?_
     refine TillSt.tP 3 (fun _=>hHeld) ?_
     refine TillSt.tL 4 hHeld (hy:=Or.inl ⟨by rfl,by intro w hSw;obtain⟨-,q1,q2,q3,q4⟩:=hSw;go_simp;try with_reducible rfl⟩) (h:=?_)
     refine TillSt.nx [5] ?_
     refine NextSt.cons rfl (fun K' hK=>?_) NextSt.nil
     clear hHeld
     go_simp
     refine(MU.out _ _ _ (T.out.frac 0 rfl) ((XX.out _ T.out.lx).2.frac.mono (Nat.zero_le _))).mono ?_
     rintro e wo ⟨Vo,rfl,hVo,hb⟩
     obtain⟨zf,rfl,hz⟩:=hVo.cells
     have T0:=T
     have HB:=Lib.hid hb
     have HZ:=Lib.hid hz
     replace T:=Lib.hid (T.out.call hb)
     clear hVo hz hb
     refine hK.out _ _ (⟨⟨T.out.cell 0 0 rfl rfl,T.out.cell 0 1 rfl rfl,T.out.cell 0 2 rfl rfl,T.out.cell 0 3 rfl rfl⟩,(XX.out _ T.out.lx).1 0 _ rfl,(XX.out _ T.out.lx).1 1 _ rfl,(XX.out _ T.out.lx).1 2 _ rfl,(XX.out _ T.out.lx).1 3 _ rfl⟩) (fun hHeld=>?_)
     clear hK
     try simp only[Act.put,Lw.s1,Lw.s2,Lw.s3]
     refine TillSt.tP 6 (fun _=>hHeld) ?_
     refine TillSt.tP 7 (fun _=>hHeld) ?_
     refine TillSt.tP 8 (fun _=>hHeld) ?_
     refine TillSt.nx [9] ?_
     refine NextSt.last rfl (by kernel_rfl) (fun K' hK=>?_) NextSt.nil
     have g0:=T.out.cell 0 0 rfl rfl
     have g1:=T.out.cell 0 1 rfl rfl
     have g2:=T.out.cell 0 2 rfl rfl
     have g3:=T.out.cell 0 3 rfl rfl
     have f0:=T.out.fz 0 0 rfl rfl
     have f1:=T.out.fz 0 1 rfl rfl
     have f2:=T.out.fz 0 2 rfl rfl
     have f3:=T.out.fz 0 3 rfl rfl
     clear hHeld
     go_simp
     clear g0 g1 g2 g3 f0 f1 f2 f3
     refine hK.out _ _ ?_
     clear hK
     try simp only[Act.put,Lw.s1,Lw.s2,Lw.s3]
     refine TillSt.done (by kernel_rfl) ?_ _
     replace T:=Lib.hid (T0.out.store HB.out HZ.out 0 rfl)
     obtain⟨wn,hwn⟩:∃ W,W=wo.setCells b9 0 (fcE zf):=⟨_,rfl⟩
     have eN:(((wo.setCell ⟨b9,0,none⟩ (.bool zf.s)).setCell ⟨b9,1,none⟩ (.slice zf.a zf.k zf.c)).setCell ⟨b9,2,none⟩ (.bool false)).setCell ⟨b9,3,none⟩ (.slice zf.a' zf.k' zf.c')=wn:=hwn.symm
     rw[eN]
     rw[← hwn] at T
     clear eN hwn
     clear T0 HB HZ MU XX
     have a0:=T.out.cell 1 0 rfl rfl
     have a1:=T.out.cell 1 1 rfl rfl
     have a2:=T.out.cell 1 2 rfl rfl
     have a3:=T.out.cell 1 3 rfl rfl
     have c0:=T.out.cell 0 0 rfl rfl
     have c1:=T.out.cell 0 1 rfl rfl
     have c2:=T.out.cell 0 2 rfl rfl
     have c3:=T.out.cell 0 3 rfl rfl
     have HA:=Lib.hid (fsub_any _ _ d pr _ (T.out.frac 1 rfl) (T.out.frac 0 rfl) (hfd.out.mono (by omega)) (FP.out.mono (by decide)))
     go_wp2_with fail
     clear a0 a1 a2 a3 c0 c1 c2 c3
     refine HA.out.mono ?_
     rintro e wo ⟨Vo,rfl,hVo,hb⟩
     obtain⟨z5,rfl,hz⟩:=hVo.cells
     have TC:=T.out.call hb
     have g0:=TC.cell 1 0 rfl rfl
     have g1:=TC.cell 1 1 rfl rfl
     have g2:=TC.cell 1 2 rfl rfl
     have g3:=TC.cell 1 3 rfl rfl
     have f0:=TC.fz 1 0 rfl rfl
     have f1:=TC.fz 1 1 rfl rfl
     have f2:=TC.fz 1 2 rfl rfl
     have f3:=TC.fz 1 3 rfl rfl
     replace T:=Lib.hid (T.out.store hb hz 1 rfl)
     clear hVo hz hb TC HA
     go_wp2_with fail
     clear g0 g1 g2 g3 f0 f1 f2 f3
     have st:=Lib.hid (show ∃ (d:Rat) (D:Fc),FS w w4 [⟨b5,D,d⟩,⟨w.heap.size,S,s⟩] _∧FL d (2+23*(j+1)) from⟨_,z5,T.out.tail,FD.out⟩)
     clear T FD FP hfd
     go_roundw
     case rel=>exact⟨j+1,by omega,by simp,st⟩
     case measure=>simp[intOf];omega
    ·obtain rfl:j=2:=by omega
     rw[show ((2:Nat):Int)=2 from rfl]
     have cW:=WB.out _ T.out.fr.below
     go_wp2_with fail
     refine(of_any 1 1 _ (by decide) (by decide) (by decide) (by decide)).mono ?_
     rintro e wo ⟨Vo,rfl,hVo,hb⟩
     obtain⟨f9,rfl,hz⟩:=hVo.cells
     rw[show Int.toNat 1=1 from rfl,Rat.mkRat_one] at hz
     have TN:=Lib.hid (T.out.new hb hz)
     go_upto_region 22 with fail
     obtain⟨b9,hbx⟩:∃ b,b=wo.heap.size:=⟨_,rfl⟩
     obtain⟨wn,hwn⟩:∃ W,W=wo.alloc (.cells #[.bool f9.s, .slice f9.a f9.k f9.c, .bool false, .slice f9.a' f9.k' f9.c'] 68):=⟨_,rfl⟩
     rw[← hbx,← hwn]
     replace TN:Hid (FS w w4 (⟨b9,f9,((1:Int):Rat)⟩ :: [⟨b5,D,d⟩,⟨w.heap.size,S,s⟩]) wn):=by rw[hwn,hbx];exact TN
     clear hVo hz hb hbx hwn T
     have T:=TN
     clear TN
     clear cW
     obtain⟨un,hun⟩:∃ q:Rat,q=((1:Int):Rat):=⟨_,rfl⟩
     rw[← hun] at T
     have FU:FL un 1:=by rw[hun];exact FL.int (canon_len 1 _ (by decide)) (by decide)
     have F2:FL (d*d) 96:=(hfd.out.mul hfd.out).mono (by omega)
     have F3:FL (d*d*un) 97:=F2.mul FU
     have F4:FL (s+d*d*un) (1+98*(k+1)):=(hfs.out.add F3).mono (by omega)
     replace FU:=Lib.hid FU
     replace F2:=Lib.hid F2
     replace F3:=Lib.hid F3
     replace F4:=Lib.hid F4
     clear hun
     have a0:=T.out.cell 1 0 rfl rfl
     have a1:=T.out.cell 1 1 rfl rfl
     have a2:=T.out.cell 1 2 rfl rfl
     have a3:=T.out.cell 1 3 rfl rfl
     have HA:=Lib.hid (fmul_any _ _ d d _ (T.out.frac 1 rfl) (T.out.frac 1 rfl) (hfd.out.mono (by omega)) (hfd.out.mono (by omega)))
     go_wp2_with fail
     clear a0 a1 a2 a3
     refine HA.out.mono ?_
     rintro e wo ⟨Vo,rfl,hVo,hb⟩
     obtain⟨z5,rfl,hz⟩:=hVo.cells
     have TC:=T.out.call hb
     have g0:=TC.cell 1 0 rfl rfl
     have g1:=TC.cell 1 1 rfl rfl
     have g2:=TC.cell 1 2 rfl rfl
     have g3:=TC.cell 1 3 rfl rfl
     have f0:=TC.fz 1 0 rfl rfl
     have f1:=TC.fz 1 1 rfl rfl
     have f2:=TC.fz 1 2 rfl rfl
     have f3:=TC.fz 1 3 rfl rfl
     replace T:=Lib.hid (T.out.store hb hz 1 rfl)
     clear hVo hz hb TC HA
     go_upto_region 23 with fail
     clear g0 g1 g2 g3 f0 f1 f2 f3
     obtain⟨wn,hwn⟩:∃ W,W=wo.setCells b5 0 (fcE z5):=⟨_,rfl⟩
     have eN:(((wo.setCell ⟨b5,0,none⟩ (.bool z5.s)).setCell ⟨b5,1,none⟩ (.slice z5.a z5.k z5.c)).setCell ⟨b5,2,none⟩ (.bool false)).setCell ⟨b5,3,none⟩ (.slice z5.a' z5.k' z5.c')=wn:=hwn.symm
     rw[eN]
     rw[← hwn] at T
     clear eN hwn
     have a0:=T.out.cell 1 0 rfl rfl
     have a1:=T.out.cell 1 1 rfl rfl
     have a2:=T.out.cell 1 2 rfl rfl
     have a3:=T.out.cell 1 3 rfl rfl
     have c0:=T.out.cell 0 0 rfl rfl
     have c1:=T.out.cell 0 1 rfl rfl
     have c2:=T.out.cell 0 2 rfl rfl
     have c3:=T.out.cell 0 3 rfl rfl
     have HA:=Lib.hid (fmul_any _ _ (d*d) un _ (T.out.frac 1 rfl) (T.out.frac 0 rfl) (F2.out.mono (by decide)) (FU.out.mono (by decide)))
     go_wp2_with fail
     clear a0 a1 a2 a3 c0 c1 c2 c3
     refine HA.out.mono ?_
     rintro e wo ⟨Vo,rfl,hVo,hb⟩
     obtain⟨z6,rfl,hz⟩:=hVo.cells
     have TC:=T.out.call hb
     have g0:=TC.cell 1 0 rfl rfl
     have g1:=TC.cell 1 1 rfl rfl
     have g2:=TC.cell 1 2 rfl rfl
     have g3:=TC.cell 1 3 rfl rfl
     have f0:=TC.fz 1 0 rfl rfl
     have f1:=TC.fz 1 1 rfl rfl
     have f2:=TC.fz 1 2 rfl rfl
     have f3:=TC.fz 1 3 rfl rfl
     replace T:=Lib.hid (T.out.store hb hz 1 rfl)
     clear hVo hz hb TC HA
     go_upto_region 24 with fail
     clear g0 g1 g2 g3 f0 f1 f2 f3
     obtain⟨wn,hwn⟩:∃ W,W=wo.setCells b5 0 (fcE z6):=⟨_,rfl⟩
     have eN:(((wo.setCell ⟨b5,0,none⟩ (.bool z6.s)).setCell ⟨b5,1,none⟩ (.slice z6.a z6.k z6.c)).setCell ⟨b5,2,none⟩ (.bool false)).setCell ⟨b5,3,none⟩ (.slice z6.a' z6.k' z6.c')=wn:=hwn.symm
     rw[eN]
     rw[← hwn] at T
     clear eN hwn
     have a0:=T.out.cell 2 0 rfl rfl
     have a1:=T.out.cell 2 1 rfl rfl
     have a2:=T.out.cell 2 2 rfl rfl
     have a3:=T.out.cell 2 3 rfl rfl
     have c0:=T.out.cell 1 0 rfl rfl
     have c1:=T.out.cell 1 1 rfl rfl
     have c2:=T.out.cell 1 2 rfl rfl
     have c3:=T.out.cell 1 3 rfl rfl
     have HA:=Lib.hid (fadd_any _ _ s (d*d*un) _ (T.out.frac 2 rfl) (T.out.frac 1 rfl) (hfs.out.mono (by have:=HN.out;have:=hn.out;omega)) (F3.out.mono (by decide)))
     go_wp2_with fail
     clear a0 a1 a2 a3 c0 c1 c2 c3
     refine HA.out.mono ?_
     rintro e wo ⟨Vo,rfl,hVo,hb⟩
     obtain⟨z7,rfl,hz⟩:=hVo.cells
     have TC:=T.out.call hb
     have g0:=TC.cell 2 0 rfl rfl
     have g1:=TC.cell 2 1 rfl rfl
     have g2:=TC.cell 2 2 rfl rfl
     have g3:=TC.cell 2 3 rfl rfl
     have f0:=TC.fz 2 0 rfl rfl
     have f1:=TC.fz 2 1 rfl rfl
     have f2:=TC.fz 2 2 rfl rfl
     have f3:=TC.fz 2 3 rfl rfl
     replace T:=Lib.hid (T.out.store hb hz 2 rfl)
     clear hVo hz hb TC HA
     go_wp2_with fail
     clear g0 g1 g2 g3 f0 f1 f2 f3
     have st:=Lib.hid (show LSt w w4 (k+1) _ from⟨_,z7,T.out.tail.tail,F4.out⟩)
     clear T FU F2 F3 F4 hfd
     go_roundw
     case rel=>exact⟨k+1,by omega,by simp,st.out⟩
     case measure=>simp[intOf];omega
  ·obtain rfl:k=n:=by omega
   go_wp2_with fail
   replace T:=Lib.hid T.out.drew
   refine TillSt.start (fun w'=>w'.cell? ⟨w.heap.size,0,none⟩=some (.bool S.s)∧w'.cell? ⟨w.heap.size,1,none⟩=some (.slice S.a S.k S.c)∧w'.cell? ⟨w.heap.size,2,none⟩=some (.bool false)∧w'.cell? ⟨w.heap.size,3,none⟩=some (.slice S.a' S.k' S.c')) 3 (by kernel_rfl) (⟨T.out.cell 0 0 rfl rfl,T.out.cell 0 1 rfl rfl,T.out.cell 0 2 rfl rfl,T.out.cell 0 3 rfl rfl⟩) (fun hHeld=>?_)
   generalize wr.drew=wd at *
   refine TillSt.tP 0 (fun _=>hHeld) ?_
   refine TillSt.tL 1 hHeld (hy:=Or.inl ⟨by rfl,by intro w hSw;obtain⟨q1,q2,q3,q4⟩:=hSw;go_simp;try with_reducible rfl⟩) (h:=?_)
   refine TillSt.tP 2 (fun _=>hHeld) ?_
   refine TillSt.nx [3] ?_
   refine NextSt.last rfl (by kernel_rfl) (fun K' hK=>?_) NextSt.nil
   have g0:=T.out.cell 0 0 rfl rfl
   have g1:=T.out.cell 0 1 rfl rfl
   have g2:=T.out.cell 0 2 rfl rfl
   have g3:=T.out.cell 0 3 rfl rfl
   have f0:=T.out.fz 0 0 rfl rfl
   have f1:=T.out.fz 0 1 rfl rfl
   have f2:=T.out.fz 0 2 rfl rfl
   have f3:=T.out.fz 0 3 rfl rfl
   clear hHeld
   go_simp
   clear g0 g1 g2 g3 f0 f1 f2 f3
   refine hK.out _ _ ?_
   clear hK
   try simp only[Act.put,Lw.s1,Lw.s2,Lw.s3]
   refine TillSt.tP 4 (fun q=>by cases q) ?_
   refine TillSt.done (by kernel_rfl) ?_ _
   have FF:=T.out.fr.put 0 rfl (fcE S) rfl
   have oS:=T.out.off _ (List.mem_singleton.2 rfl) _ (List.mem_singleton.2 rfl)
   have hS:=(T.out.fc _ (List.mem_singleton.2 rfl)).set oS 0 (fcE S)
   have hV:=((T.out.lx.set (Or.inl rfl) 0 (fcE S)).row HX.out).mono (Nat.le_succ _)
   have GG:=Lib.hid (FF.get 0 rfl)
   have st:=Lib.hid (And.intro hV (And.intro hS FF.below))
   clear FF oS hS hV T
   go_wp2_with fail
   refine bodyPost_ret (ret_row_cell_tmp Tryz.results78 _ _ w.heap.size (fcE S) _ rfl GG.out Tryz.underlying68 rfl infoF) rfl ?_
   exact⟨_,S,_,rfl,st.out.1,st.out.2.1,st.out.2.2⟩

end Wd
end Go.Proofs.YtdnogmanbdgadaaGreatDoor
