/-
  Lemmas and walks, texts joined: QNorm, QGrid.
-/
import Derived.Test.YtdnogmanbdgadaaGreatDoorTb29
set_option linter.unusedSimpArgs false
set_option linter.unusedVariables false
set_option maxRecDepth 100000
set_option maxHeartbeats 40000000
namespace Go.Proofs.YtdnogmanbdgadaaGreatDoor
namespace Wd
open Go.RowKit Lw Tw

theorem colmk_any (k b:Nat) (w:World) :
  Calls Tryz.prog 173 #[.int .i64 k, .pointer (some ⟨b,0,none⟩)] w fun e w'=>e = .returned (.func (.func 174) #[] #[.pointer (some ⟨b,0,none⟩), .pointer (some ⟨w.heap.size,0,none⟩)])∧w.alloc (.cells #[.int .i64 k] 3)=w':=by
 go_enter Tryz.func173,Tryz.ntmps173
 go_wp2_with fail
 exact bodyPost_ret (results_tmp rfl _ _ _) rfl ⟨rfl,rfl⟩
def colF (ts:List Int) (k:Nat) (j:Nat):Int:=if k=0 then 1 else ts.getD j 0
def valF (vs:List Int) (j:Nat):Int:=vs.getD j 0
def nRow (ts vs:List Int) (i:Nat):List Rat:=[((Ls.S (colF ts i) (colF ts 0) ts.length:Int):Rat),((Ls.S (colF ts i) (colF ts 1) ts.length:Int):Rat),((Ls.S (colF ts i) (valF vs) ts.length:Int):Rat)]
theorem nRow_take (ts vs:List Int) (i k:Nat) (hk:k<2):(nRow ts vs i).take (k+1)=(nRow ts vs i).take k ++ [((Ls.S (colF ts i) (colF ts k) ts.length:Int):Rat)]:=by
 rcases(show k=0∨k=1 by omega) with rfl|rfl <;> rfl
theorem nRow_last (ts vs:List Int) (i:Nat):nRow ts vs i=(nRow ts vs i).take 2 ++ [((Ls.S (colF ts i) (valF vs) ts.length:Int):Rat)]:=rfl
abbrev nL (w:World) (V1 V2:Value) (X Y:Value):List (Nat×List Value):=[(w.heap.size+1+1,[X,Y]),(w.heap.size+1,[V2]),(w.heap.size,[V1])]
def NSt (w:World) (V1 V2:Value) (ts vs:List Int) (i k:Nat) (wr:World):Prop :=
 ∃ X Y W1,Fr w (nL w V1 V2 X Y) wr∧w.heap.size+3≤W1.heap.size∧W1.heap.size≤wr.heap.size∧(∀ b,w.heap.size+3≤b→b<W1.heap.size→wr.heap[b]? = W1.heap[b]?) ∧
  ((i=0∧RowF wr W1.heap.size X ((nRow ts vs 0).take k)∧Y = .slice none 0 0)∨(i=1∧RowF W1 (w.heap.size+3) X (nRow ts vs 0)∧RowF wr W1.heap.size Y ((nRow ts vs 1).take k)))
def NOut (w:World) (V1 V2:Value) (ts vs:List Int) (i:Nat) (wr:World):Prop :=
 ∃ X Y,Fr w (nL w V1 V2 X Y) wr∧w.heap.size+3≤wr.heap.size∧(i<2→Y = .slice none 0 0)∧(i=0→X = .slice none 0 0)∧(0<i→RowF wr (w.heap.size+3) X (nRow ts vs 0))∧(1<i→RowF wr (w.heap.size+3) Y (nRow ts vs 1))
theorem NOut.inn {w:World} {V1 V2:Value} {ts vs:List Int} {i:Nat} {wr:World} (h:NOut w V1 V2 ts vs i wr) (hi:i<2):NSt w V1 V2 ts vs i 0 wr:=by
 obtain⟨X,Y,h1,h2,h3,h4,h5, -⟩:=h
 refine⟨X,Y,wr,h1,h2,Nat.le_refl _,fun _ _ _=>rfl,?_⟩
 rcases(show i=0∨i=1 by omega) with rfl|rfl
 ·rw[h4 rfl]
  exact Or.inl ⟨rfl,RowF.empty _ _ (Nat.le_refl _),h3 (by omega)⟩
 ·rw[h3 (by omega)] at *
  exact Or.inr ⟨rfl,h5 (by omega),RowF.empty _ _ (Nat.le_refl _)⟩
theorem heap_other {w:World} {b g o:Nat} {v:Value} (h:b≠g):(w.setCell ⟨g,o,none⟩ v).heap[b]? = w.heap[b]?:=Below.heap_setCell _ _ _ _ (by simpa using h)
theorem NSt.opened {w:World} {V1 V2:Value} {ts vs:List Int} {i k:Nat} {wr:World} (h:NSt w V1 V2 ts vs i k wr) (hi:i<2) (hk:k≤2) :
  ∃ (A:Option Addr) (cap B:Nat),RowF wr B (.slice A k cap) ((nRow ts vs i).take k)∧w.heap.size+3≤B∧B≤wr.heap.size ∧
   (∀ w',Below B wr w'→w'.cell? ⟨w.heap.size,0,none⟩=some V1∧w'.cell? ⟨w.heap.size+1,0,none⟩=some V2∧w'.cell? ⟨w.heap.size+1+1,i,none⟩=some (.slice A k cap)∧w'.frozen? ⟨w.heap.size+1+1,i,none⟩=false∧Below w.heap.size w w') ∧
   (∀ w' v',Below B wr w'→RowF w' B v' ((nRow ts vs i).take (k+1))→NSt w V1 V2 ts vs i (k+1) (w'.setCell ⟨w.heap.size+1+1,i,none⟩ v')) ∧
   (∀ w' v',Below B wr w'→RowF w' B v' (nRow ts vs i)→NOut w V1 V2 ts vs (i+1) (w'.setCell ⟨w.heap.size+1+1,i,none⟩ v')):=by
 obtain⟨X,Y,W1,hF,b1,b2,hb,hc⟩:=h
 have lb:∀ q∈nL w V1 V2 X Y,q.1<W1.heap.size:=fun q hq=>by
  simp only[List.mem_cons,List.not_mem_nil,or_false] at hq
  rcases hq with rfl|rfl|rfl <;> simp only <;> omega
 have FL:=fun w' (hw:Below W1.heap.size wr w')=>Fr.lower hF hw (by omega) lb
 have lt:((nRow ts vs 0).take k).length=k∧((nRow ts vs 1).take k).length=k:=by simp[nRow];omega
 have ho:∀ w' v' b,w.heap.size+3≤b→(World.setCell w' ⟨w.heap.size+1+1,i,none⟩ v').heap[b]? = w'.heap[b]?:=fun w' v' b h=>heap_other (by omega)
 have hz:∀ w' v',(World.setCell w' ⟨w.heap.size+1+1,i,none⟩ v').heap.size=w'.heap.size:=fun w' v'=>by simp
 rcases hc with⟨rfl,hX,hY⟩|⟨rfl,hX,hY⟩
 ·obtain⟨A,cap,e, -⟩:=hX.form
  rw[lt.1] at e
  subst e
  refine⟨A,cap,W1.heap.size,hX,b1,b2,fun w' hw=>⟨(FL w' hw).cell 2 0 rfl rfl,(FL w' hw).cell 1 0 rfl rfl,(FL w' hw).cell 0 0 rfl rfl,(FL w' hw).fz 0 0 rfl rfl,(FL w' hw).below⟩,fun w' v' hw hR=>?_,fun w' v' hw hR=>?_⟩
  ·exact⟨v',Y,W1,(FL w' hw).put1 0 rfl 0 v' (by simp),b1,by rw[hz];exact Nat.le_trans b2 hw.size,fun b h1 h2=>(ho _ _ b h1).trans ((hw.block b h2).trans (hb b h1 h2)),Or.inl ⟨rfl,hR.kept (by rw[hz];exact Nat.le_refl _) (fun b h1 _=>ho _ _ b (by omega)),hY⟩⟩
  ·exact⟨v',Y,(FL w' hw).put1 0 rfl 0 v' (by simp),by rw[hz];exact Nat.le_trans b1 (Nat.le_trans b2 hw.size),fun _=>hY,fun q=>by omega,fun _=>(hR.mono b1).kept (by rw[hz];exact Nat.le_refl _) (fun b h1 _=>ho _ _ b (by omega)),fun q=>by omega⟩
 ·obtain⟨A,cap,e, -⟩:=hY.form
  rw[lt.2] at e
  subst e
  refine⟨A,cap,W1.heap.size,hY,b1,b2,fun w' hw=>⟨(FL w' hw).cell 2 0 rfl rfl,(FL w' hw).cell 1 0 rfl rfl,(FL w' hw).cell 0 1 rfl rfl,(FL w' hw).fz 0 1 rfl rfl,(FL w' hw).below⟩,fun w' v' hw hR=>?_,fun w' v' hw hR=>?_⟩
  ·exact⟨X,v',W1,(FL w' hw).put1 0 rfl 1 v' (by simp),b1,by rw[hz];exact Nat.le_trans b2 hw.size,fun b h1 h2=>(ho _ _ b h1).trans ((hw.block b h2).trans (hb b h1 h2)),Or.inr ⟨rfl,hX,hR.kept (by rw[hz];exact Nat.le_refl _) (fun b h1 _=>ho _ _ b (by omega))⟩⟩
  ·exact⟨X,v',(FL w' hw).put1 0 rfl 1 v' (by simp),by rw[hz];exact Nat.le_trans b1 (Nat.le_trans b2 hw.size),fun q=>by omega,fun q=>by omega,fun _=>hX.kept (by rw[hz];exact Nat.le_trans b2 hw.size) (fun b h1 h2=>(ho _ _ b h1).trans ((hw.block b h2).trans (hb b h1 h2))),fun _=>(hR.mono b1).kept (by rw[hz];exact Nat.le_refl _) (fun b h1 _=>ho _ _ b (by omega))⟩
theorem info_sf:(Tryz.prog.info? 131).map (fun i=>(i.zero,i.size,i.bytes))=some (some (.slice none 0 0),1,24):=by kernel_rfl
theorem make_ff (w:World):(Instr.makeSlice 177 (.int .i64 2) (.int .i64 2)).run Tryz.prog w = .ok (.slice (some ⟨w.heap.size,0,none⟩) 2 2) (w.alloc (.cells #[.slice none 0 0, .slice none 0 0] 131)):=by
 obtain⟨i,hi,hzz⟩:=Option.map_eq_some_iff.1 info_sf
 simp only[Prod.mk.injEq] at hzz
 obtain⟨hz,hs,hb⟩:=hzz
 have h:=run_make (P:=Tryz.prog) w 177 131 i _ Tryz.underlying177 hi hz .i64 .i64 2 2 (by omega) (Int.le_refl _) (by rw[hb];decide) (by decide)
 rw[hs] at h
 have e:madeCells (Value.slice none 0 0).cells (Int.toNat 2*1) = #[.slice none 0 0, .slice none 0 0]:=by kernel_rfl
 rw[e] at h
 exact h
theorem natAbs_bd {x:Int} (h:-1099511627776≤x∧x≤1099511627776):x.natAbs≤1099511627776:=by omega
theorem colF_bd {ts:List Int} (ht:∀ x∈ts, -1099511627776≤x∧x≤1099511627776) (k i:Nat) (hi:i<ts.length):(colF ts k i).natAbs≤1099511627776:=by
 unfold colF
 split
 ·decide
 ·rw[List.getD_eq_getElem?_getD,List.getElem?_eq_getElem hi]
  exact natAbs_bd (ht _ (List.getElem_mem hi))
theorem valF_bd {vs:List Int} (hv:∀ x∈vs, -1099511627776≤x∧x≤1099511627776) (i:Nat) (hi:i<vs.length):(valF vs i).natAbs≤1099511627776:=by
 unfold valF
 rw[List.getD_eq_getElem?_getD,List.getElem?_eq_getElem hi]
 exact natAbs_bd (hv _ (List.getElem_mem hi))
theorem colF_at (ts:List Int) (k i:Nat) (hi:i<ts.length):(if k=0 then 1 else ts[i])=colF ts k i:=by
 unfold colF
 rw[List.getD_eq_getElem?_getD,List.getElem?_eq_getElem hi]
 rfl
theorem valF_at (vs:List Int) (i:Nat) (hi:i<vs.length):vs[i]=valF vs i:=by
 unfold valF
 rw[List.getD_eq_getElem?_getD,List.getElem?_eq_getElem hi]
 rfl
def NormPost (ts vs:List Int) (w:World) (e:Ending) (w':World):Prop:=∃ g X Y,e = .returned (.slice (some ⟨g,0,none⟩) 2 2)∧w.heap.size≤g∧g<w'.heap.size∧w'.rangeAt g 0 [X,Y]∧RowF w' w.heap.size X (nRow ts vs 0)∧RowF w' w.heap.size Y (nRow ts vs 1)∧Below w.heap.size w w'
theorem normal_any (V1 V2 V3:Value) (ts vs:List Int) (w:World) (h1:R2 w V1 ts) (h2:I6 w V2 vs) (h3:I6 w V3 (List.replicate ts.length 1)) (hl:vs.length=ts.length) (h0:0<ts.length) (hn:ts.length≤200)
  (ht:∀ x∈ts, -1099511627776≤x∧x≤1099511627776) (hv:∀ x∈vs, -1099511627776≤x∧x≤1099511627776) :
  Calls Tryz.prog 122 #[V1,V2,V3] w (NormPost ts vs w):=by
 have HR:=Lib.hid h1
 have HV:=Lib.hid h2
 have HW:=Lib.hid h3
 have TB:=Lib.hid (fun k=>colF_bd ht k)
 have VB:=Lib.hid (valF_bd hv)
 have hnv:Hid (vs.length=ts.length):=Lib.hid hl
 have CO:=Lib.hid (fun w' (hb:Below w.heap.size w w') (j:Nat) (hj:j<ts.length) (k:Nat) (hk:k<2) (bk:Nat) (c1:w'.cell? ⟨w.heap.size,0,none⟩=some V1) (c2:w'.cell? ⟨bk,0,none⟩=some (.int .i64 k))=>(show Calls Tryz.prog 174 #[.int .i64 j, .pointer (some ⟨w.heap.size,0,none⟩), .pointer (some ⟨bk,0,none⟩)] w' fun e w2=>e = .returned (.int .i64 (colF ts k j))∧Below w'.heap.size w' w2 from by
  have:=col_any j k w.heap.size bk V1 ts w' (h1.below hb) c1 c2 hj hk (by omega)
  rwa [colF_at] at this))
 have SI:=Lib.hid (fun w' (hb:Below w.heap.size w w') (j:Nat) (hj:j<ts.length) (c1:w'.cell? ⟨w.heap.size+1,0,none⟩=some V2)=>(show Calls Tryz.prog 175 #[.int .i64 j, .pointer (some ⟨w.heap.size+1,0,none⟩)] w' fun e w2=>e = .returned (.int .i64 (valF vs j))∧Below w'.heap.size w' w2 from by
  have:=side_any j (w.heap.size+1) V2 vs w' (h2.below hb) c1 (by omega) (by omega)
  rwa [valF_at] at this))
 have D3:=Lib.hid (fun i k w' p q r s (hb:Below w.heap.size w w') (fa:∀ j:Nat,j<ts.length → ∀ w2,Below w'.heap.size w' w2→Calls Tryz.prog 174 #[.int .i64 j, .pointer (some ⟨p,0,none⟩), .pointer (some ⟨q,0,none⟩)] w2 fun e w3=>e = .returned (.int .i64 (colF ts i j))∧Below w2.heap.size w2 w3)
   (fb:∀ j:Nat,j<ts.length → ∀ w2,Below w'.heap.size w' w2→Calls Tryz.prog 174 #[.int .i64 j, .pointer (some ⟨r,0,none⟩), .pointer (some ⟨s,0,none⟩)] w2 fun e w3=>e = .returned (.int .i64 (colF ts k j))∧Below w2.heap.size w2 w3) =>
  dot_cc V3 (colF ts i) (colF ts k) ts.length p q r s w' (h3.below hb) hn (TB.out i) (TB.out k) fa fb)
 have D2:=Lib.hid (fun i w' p q r (hb:Below w.heap.size w w') (fa:∀ j:Nat,j<ts.length → ∀ w2,Below w'.heap.size w' w2→Calls Tryz.prog 174 #[.int .i64 j, .pointer (some ⟨p,0,none⟩), .pointer (some ⟨q,0,none⟩)] w2 fun e w3=>e = .returned (.int .i64 (colF ts i j))∧Below w2.heap.size w2 w3)
   (fb:∀ j:Nat,j<ts.length → ∀ w2,Below w'.heap.size w' w2→Calls Tryz.prog 175 #[.int .i64 j, .pointer (some ⟨r,0,none⟩)] w2 fun e w3=>e = .returned (.int .i64 (valF vs j))∧Below w2.heap.size w2 w3) =>
  dot_cs V3 (colF ts i) (valF vs) ts.length p q r w' (h3.below hb) hn (TB.out i) (fun j hj=>VB.out j (by rw[hnv.out];exact hj)) fa fb)
 obtain⟨A1,p1,sls,rfl, -, -, -⟩:=h1
 obtain⟨A2,p2,rfl, -⟩:=h2
 obtain⟨A3,p3,rfl, -⟩:=h3
 obtain⟨g0,a0,c0,hA, -,l0,z0, -⟩:=HR.out.cell h0
 subst hA
 have F0:=((Fr.start w).alloc [.slice (some ⟨g0,0,none⟩) ts.length p1] 130).alloc [.slice A2 vs.length p2] 50
 simp only[World.size_alloc] at F0
 have z1:=(F0.below.cell (p:=⟨g0,0,none⟩) l0).trans z0
 have FO:=F0.alloc [.slice none 0 0, .slice none 0 0] 131
 simp only[World.size_alloc] at FO
 have ST:=Lib.hid (show NOut w (.slice (some ⟨g0,0,none⟩) ts.length p1) (.slice A2 vs.length p2) ts vs 0 _ from⟨_,_,FO,by have:=(FO.least 0 rfl).2;omega,fun _=>rfl,fun _=>rfl,fun q=>by omega,fun q=>by omega⟩)
 have mf:=make_ff
 have k0:(0:Int)<(ts.length:Int):=by omega
 obtain⟨x3,hx3⟩:∃ x,x=Value.slice A3 (List.replicate ts.length (1:Int)).length p3:=⟨_,rfl⟩
 rw[← hx3] at D3 D2 HW ⊢
 clear ht hv hl F0 FO z0 hx3 l0
 go_enter Tryz.func122,Tryz.ntmps122
 go_wp2_with fail
 clear z1 mf k0
 go_loopw [10,11,21] (fun _ _ i wr=>∃ j:Nat,j≤2∧i = .int .i64 j∧NOut w (.slice (some ⟨g0,0,none⟩) ts.length p1) (.slice A2 vs.length p2) ts vs j wr) (fun _ _ i _=>2-(intOf i).toNat)
 case atStart=>exact⟨0,by omega,rfl,ST.out⟩
 case round =>
  clear ST
  obtain⟨i,hi2,rfl,hNO⟩:=hrel
  by_cases hi:i<2
  ·have NI:=Lib.hid (hNO.inn hi)
   have i1:(i:Int)<2:=by omega
   clear hNO
   go_wp2_with fail
   go_loopw [11,26] (fun _ kk wr=>∃ k:Nat,k≤2∧kk = .int .i64 k∧NSt w (.slice (some ⟨g0,0,none⟩) ts.length p1) (.slice A2 vs.length p2) ts vs i k wr) (fun _ kk _=>2-(intOf kk).toNat)
   case atStart=>exact⟨0,by omega,rfl,NI.out⟩
   case round =>
    clear NI
    obtain⟨k,hk2,rfl,hNS⟩:=hrel
    obtain⟨A,cap,B,hRow,hB0,hB1,hCe,hSt,hFi⟩:=hNS.opened hi hk2
    clear hNS
    have HRow:=Lib.hid hRow
    have HC:=Lib.hid hCe
    have HS:=Lib.hid hSt
    have HF:=Lib.hid hFi
    clear hRow hCe hSt hFi
    by_cases hk:k<2
    ·have k1:(k:Int)<2:=by omega
     clear HF
     go_wp2_with fail
     have FB:=Lib.hid (show Below wr.heap.size wr wr.drew from(Below.refl _ _).drew)
     have HG:=Lib.hid (fun w' (hb:Below wr.heap.size wr w')=>HC.out w' (hb.mono hB1))
     refine TillSt.start (fun w'=>w'.cell? ⟨w.heap.size+1+1,i,none⟩=some (.slice A k cap)) 17 (by kernel_rfl) ((HG.out _ FB.out).2.2.1) (fun hHeld=>?_)
     generalize wr.drew=wd at *
     refine TillSt.tP 0 (fun _=>hHeld) ?_
     refine TillSt.tP 1 (fun _=>hHeld) ?_
     refine TillSt.tP 2 (fun _=>hHeld) ?_
     refine TillSt.tP 3 (fun _=>hHeld) ?_
     refine TillSt.tP 4 (fun _=>hHeld) ?_
     refine TillSt.tL 5 hHeld (hy:=Or.inl ⟨by rfl,by intro w hSw;skip;go_simp;try with_reducible rfl⟩) (h:=?_)
     refine TillSt.tP 6 (fun _=>hHeld) ?_
     refine TillSt.tP 7 (fun _=>hHeld) ?_
     refine TillSt.tP 8 (fun _=>hHeld) ?_
     refine TillSt.tP 10 (fun _=>hHeld) ?_
     refine TillSt.tP 11 (fun _=>hHeld) ?_
     refine TillSt.nx [9] ?_
     refine NextSt.cons rfl (fun K' hK=>?_) NextSt.nil
     clear hHeld
     go_simp
     go_at_call 173
     refine(colmk_any i w.heap.size _).mono ?_
     rintro e w1 ⟨rfl,hw⟩
     obtain⟨b1,hb1⟩:∃ b,b=wd.heap.size:=⟨_,rfl⟩
     rw[← hb1]
     have ba:=(Below.refl _ wd).alloc (Nat.le_refl _) (.cells #[.int .i64 (i:Int)] 3)
     have c1:=rangeAt_new wd [.int .i64 (i:Int)] 3 0 _ rfl
     have lt1:b1<(wd.alloc (.cells #[.int .i64 (i:Int)] 3)).heap.size:=by rw[hb1];simp
     rw[← hb1] at c1
     simp only[List.toArray] at c1
     rw[hw] at ba lt1
     have c1':w1.cell? ⟨b1,0,none⟩=some (.int .i64 (i:Int)):=by rw[← hw];exact c1
     replace FB:=Lib.hid (below_then FB.out ba)
     have C1:=Lib.hid c1'
     clear hw ba c1 c1' hb1
     refine hK.out _ _ ((HG.out _ FB.out).2.2.1) (fun hHeld=>?_)
     clear hK
     try simp only[Act.put,Lw.s1,Lw.s2,Lw.s3]
     refine TillSt.nx [12] ?_
     refine NextSt.cons rfl (fun K' hK=>?_) NextSt.nil
     clear hHeld
     go_simp
     go_at_call 173
     refine(colmk_any k w.heap.size _).mono ?_
     rintro e w2 ⟨rfl,hw⟩
     obtain⟨b2,hb2⟩:∃ b,b=w1.heap.size:=⟨_,rfl⟩
     rw[← hb2]
     have ba:=(Below.refl _ w1).alloc (Nat.le_refl _) (.cells #[.int .i64 (k:Int)] 3)
     have c2:=rangeAt_new w1 [.int .i64 (k:Int)] 3 0 _ rfl
     have lt2:b2<(w1.alloc (.cells #[.int .i64 (k:Int)] 3)).heap.size:=by rw[hb2];simp
     rw[← hb2] at c2
     simp only[List.toArray] at c2
     rw[hw] at ba lt2
     have c2':w2.cell? ⟨b2,0,none⟩=some (.int .i64 (k:Int)):=by rw[← hw];exact c2
     replace FB:=Lib.hid (below_then FB.out ba)
     have C2:=Lib.hid c2'
     replace C1:=Lib.hid ((ba.cell (p:=⟨b1,0,none⟩) lt1).trans C1.out)
     replace lt1:=Nat.lt_of_lt_of_le lt1 ba.size
     clear hw ba c2 c2' hb2
     refine hK.out _ _ ((HG.out _ FB.out).2.2.1) (fun hHeld=>?_)
     clear hK
     try simp only[Act.put,Lw.s1,Lw.s2,Lw.s3]
     refine TillSt.nx [13] ?_
     refine NextSt.cons rfl (fun K' hK=>?_) NextSt.nil
     clear hHeld
     go_simp
     refine(D3.out i k _ w.heap.size b1 w.heap.size b2 (HG.out _ FB.out).2.2.2.2 (fun j hj w3 hw=>CO.out w3 ((HG.out _ (below_then FB.out hw)).2.2.2.2) j hj i hi b1 (HG.out _ (below_then FB.out hw)).1 ((hw.cell (p:=⟨b1,0,none⟩) lt1).trans C1.out)) (fun j hj w3 hw=>CO.out w3 ((HG.out _ (below_then FB.out hw)).2.2.2.2) j hj k hk b2 (HG.out _ (below_then FB.out hw)).1 ((hw.cell (p:=⟨b2,0,none⟩) lt2).trans C2.out))).mono ?_
     rintro e w4 ⟨V,rfl,hV,hb⟩
     have FB4:=below_then FB.out hb
     obtain⟨x,rfl,hx⟩:=hV.cells
     have OX:Hid (Off x (Value.slice A k cap).ownBlock):=Lib.hid (by
      obtain⟨-, -, -,hob⟩:=HRow.out.form
      refine⟨fun _ b off e q=>?_,fun _ b off e q=>?_⟩
      ·have h1:=hx.fn b off e
       have h2:=(hob b q.symm).2
       have h3:=FB.out.size
       omega
      ·have h1:=hx.fd b off e
       have h2:=(hob b q.symm).2
       have h3:=FB.out.size
       omega)
     have HX:=Lib.hid (hx.mono (Nat.le_trans hB1 FB.out.size))
     replace HRow:=Lib.hid (HRow.out.below FB4)
     replace FB:=Lib.hid FB4
     clear hb hx hV FB4
     refine hK.out _ _ ((HG.out _ FB.out).2.2.1) (fun hHeld=>?_)
     clear hK
     try simp only[Act.put,Lw.s1,Lw.s2,Lw.s3]
     refine TillSt.nx [14] ?_
     refine NextSt.cons rfl (fun K' hK=>?_) NextSt.nil
     clear hHeld
     go_simp
     refine hK.out _ _ ((HG.out _ (FB.out.alloc FB.out.size _)).2.2.1) (fun hHeld=>?_)
     clear hK
     try simp only[Act.put,Lw.s1,Lw.s2,Lw.s3]
     refine TillSt.nx [15] ?_
     refine NextSt.cons rfl (fun K' hK=>?_) NextSt.nil
     clear hHeld
     refine step_rowF w4 rfl (.tmp 34) (.tmp 43) (by rfl) B (.slice A k cap) _ x _ (by rfl) (by rfl) HRow.out (by simp[nRow] <;> omega) HX.out OX.out ?_
     intro v5 w5 hR hb5
     obtain⟨A5,n5,c5,rfl⟩:∃ A n c,v5=Value.slice A n c:=by obtain⟨A,c,e, -⟩:=hR.form;exact⟨A,_,c,e⟩
     have FD:=Lib.hid ((FB.out.mono hB1).trans hb5)
     have HR5:=Lib.hid hR
     clear hR hb5 HRow HX OX FB HG
     refine hK.out _ _ ((HC.out _ FD.out).2.2.1) (fun hHeld=>?_)
     clear hK
     try simp only[Act.put,Lw.s1,Lw.s2,Lw.s3]
     refine TillSt.tP 16 (fun _=>hHeld) ?_
     refine TillSt.nx [17] ?_
     refine NextSt.last rfl (by kernel_rfl) (fun K' hK=>?_) NextSt.nil
     have q1:=(HC.out _ FD.out).2.2.1
     have q2:=(HC.out _ FD.out).2.2.2.1
     clear hHeld
     go_simp
     clear q1 q2
     refine hK.out _ _ ?_
     clear hK
     try simp only[Act.put,Lw.s1,Lw.s2,Lw.s3]
     refine TillSt.done (by kernel_rfl) ?_ _
     have st:=Lib.hid (HS.out w5 (.slice A5 n5 c5) FD.out (by rw[nRow_take _ _ _ _ hk];exact HR5.out))
     clear HR5 FD HC HS
     go_wp2_with fail
     go_roundw
     case rel=>exact⟨k+1,by omega,by simp,st.out⟩
     case measure=>simp[intOf];omega
    ·obtain rfl:k=2:=by omega
     clear HS
     go_wp2_with fail
     have FB:=Lib.hid (show Below wr.heap.size wr wr.drew from(Below.refl _ _).drew)
     have HG:=Lib.hid (fun w' (hb:Below wr.heap.size wr w')=>HC.out w' (hb.mono hB1))
     refine TillSt.start (fun w'=>w'.cell? ⟨w.heap.size+1+1,i,none⟩=some (.slice A 2 cap)) 15 (by kernel_rfl) ((HG.out _ FB.out).2.2.1) (fun hHeld=>?_)
     generalize wr.drew=wd at *
     refine TillSt.tP 0 (fun _=>hHeld) ?_
     refine TillSt.tP 1 (fun _=>hHeld) ?_
     refine TillSt.tP 2 (fun _=>hHeld) ?_
     refine TillSt.tP 3 (fun _=>hHeld) ?_
     refine TillSt.tP 4 (fun _=>hHeld) ?_
     refine TillSt.tL 5 hHeld (hy:=Or.inl ⟨by rfl,by intro w hSw;skip;go_simp;try with_reducible rfl⟩) (h:=?_)
     refine TillSt.tP 6 (fun _=>hHeld) ?_
     refine TillSt.tP 7 (fun _=>hHeld) ?_
     refine TillSt.tP 8 (fun _=>hHeld) ?_
     refine TillSt.tP 10 (fun _=>hHeld) ?_
     refine TillSt.nx [9] ?_
     refine NextSt.cons rfl (fun K' hK=>?_) NextSt.nil
     clear hHeld
     go_simp
     go_at_call 173
     refine(colmk_any i w.heap.size _).mono ?_
     rintro e w1 ⟨rfl,hw⟩
     obtain⟨b1,hb1⟩:∃ b,b=wd.heap.size:=⟨_,rfl⟩
     rw[← hb1]
     have ba:=(Below.refl _ wd).alloc (Nat.le_refl _) (.cells #[.int .i64 (i:Int)] 3)
     have c1:=rangeAt_new wd [.int .i64 (i:Int)] 3 0 _ rfl
     have lt1:b1<(wd.alloc (.cells #[.int .i64 (i:Int)] 3)).heap.size:=by rw[hb1];simp
     rw[← hb1] at c1
     simp only[List.toArray] at c1
     rw[hw] at ba lt1
     have c1':w1.cell? ⟨b1,0,none⟩=some (.int .i64 (i:Int)):=by rw[← hw];exact c1
     replace FB:=Lib.hid (below_then FB.out ba)
     have C1:=Lib.hid c1'
     clear hw ba c1 c1' hb1
     refine hK.out _ _ ((HG.out _ FB.out).2.2.1) (fun hHeld=>?_)
     clear hK
     try simp only[Act.put,Lw.s1,Lw.s2,Lw.s3]
     refine TillSt.nx [11] ?_
     refine NextSt.cons rfl (fun K' hK=>?_) NextSt.nil
     clear hHeld
     go_simp
     refine(D2.out i _ w.heap.size b1 (w.heap.size+1) (HG.out _ FB.out).2.2.2.2 (fun j hj w3 hw=>CO.out w3 ((HG.out _ (below_then FB.out hw)).2.2.2.2) j hj i hi b1 (HG.out _ (below_then FB.out hw)).1 ((hw.cell (p:=⟨b1,0,none⟩) lt1).trans C1.out)) (fun j hj w3 hw=>SI.out w3 ((HG.out _ (below_then FB.out hw)).2.2.2.2) j hj (HG.out _ (below_then FB.out hw)).2.1)).mono ?_
     rintro e w4 ⟨V,rfl,hV,hb⟩
     have FB4:=below_then FB.out hb
     obtain⟨x,rfl,hx⟩:=hV.cells
     have OX:Hid (Off x (Value.slice A 2 cap).ownBlock):=Lib.hid (by
      obtain⟨-, -, -,hob⟩:=HRow.out.form
      refine⟨fun _ b off e q=>?_,fun _ b off e q=>?_⟩
      ·have h1:=hx.fn b off e
       have h2:=(hob b q.symm).2
       have h3:=FB.out.size
       omega
      ·have h1:=hx.fd b off e
       have h2:=(hob b q.symm).2
       have h3:=FB.out.size
       omega)
     have HX:=Lib.hid (hx.mono (Nat.le_trans hB1 FB.out.size))
     replace HRow:=Lib.hid (HRow.out.below FB4)
     replace FB:=Lib.hid FB4
     clear hb hx hV FB4
     refine hK.out _ _ ((HG.out _ FB.out).2.2.1) (fun hHeld=>?_)
     clear hK
     try simp only[Act.put,Lw.s1,Lw.s2,Lw.s3]
     refine TillSt.nx [12] ?_
     refine NextSt.cons rfl (fun K' hK=>?_) NextSt.nil
     clear hHeld
     go_simp
     refine hK.out _ _ ((HG.out _ (FB.out.alloc FB.out.size _)).2.2.1) (fun hHeld=>?_)
     clear hK
     try simp only[Act.put,Lw.s1,Lw.s2,Lw.s3]
     refine TillSt.nx [13] ?_
     refine NextSt.cons rfl (fun K' hK=>?_) NextSt.nil
     clear hHeld
     refine step_rowF w4 rfl (.tmp 52) (.tmp 59) (by rfl) B (.slice A 2 cap) _ x _ (by rfl) (by rfl) HRow.out (by simp[nRow] <;> omega) HX.out OX.out ?_
     intro v5 w5 hR hb5
     obtain⟨A5,n5,c5,rfl⟩:∃ A n c,v5=Value.slice A n c:=by obtain⟨A,c,e, -⟩:=hR.form;exact⟨A,_,c,e⟩
     have FD:=Lib.hid ((FB.out.mono hB1).trans hb5)
     have HR5:=Lib.hid hR
     clear hR hb5 HRow HX OX FB HG
     refine hK.out _ _ ((HC.out _ FD.out).2.2.1) (fun hHeld=>?_)
     clear hK
     try simp only[Act.put,Lw.s1,Lw.s2,Lw.s3]
     refine TillSt.tP 14 (fun _=>hHeld) ?_
     refine TillSt.nx [15] ?_
     refine NextSt.last rfl (by kernel_rfl) (fun K' hK=>?_) NextSt.nil
     have q1:=(HC.out _ FD.out).2.2.1
     have q2:=(HC.out _ FD.out).2.2.2.1
     clear hHeld
     go_simp
     clear q1 q2
     refine hK.out _ _ ?_
     clear hK
     try simp only[Act.put,Lw.s1,Lw.s2,Lw.s3]
     refine TillSt.done (by kernel_rfl) ?_ _
     have st:=Lib.hid (HF.out w5 (.slice A5 n5 c5) FD.out (by rw[nRow_last];exact HR5.out))
     clear HR5 FD HC HF
     go_wp2_with fail
     go_roundw
     case rel=>exact⟨i+1,by omega,by simp,st.out⟩
     case measure=>simp[intOf];omega
  ·obtain rfl:i=2:=by omega
   obtain⟨X,Y,hF,hs, -, -,hX,hY⟩:=hNO
   have R:=Lib.hid (show NormPost ts vs w (.returned (.slice (some ⟨w.heap.size+1+1,0,none⟩) 2 2)) _ from⟨_,X,Y,rfl,by omega,by omega,hF.get 0 rfl,(hX (by omega)).mono (by omega),(hY (by omega)).mono (by omega),hF.below⟩)
   clear hF hX hY CO SI D3 D2
   go_wp2_with fail
   refine bodyPost_ret (results_tmp rfl _ _ _) rfl ?_
   exact R.out
end Wd
namespace Wd
open Go.RowKit Lw Tw

structure Wc where
 s:Bool
 a:Option Addr
 k:Nat
 c:Nat
abbrev wcE (x:Wc):List Value:=wdV x.s x.a x.k x.c
theorem info_wc:(Tryz.prog.info? 66).map (fun i=>(i.zero,i.size,i.bytes))=some (some (.agg #[.bool false, .slice none 0 0]),2,32):=by kernel_rfl
theorem info_sw:(Tryz.prog.info? 222).map (fun i=>(i.zero,i.size,i.bytes))=some (some (.slice none 0 0),1,24):=by kernel_rfl
theorem wcE_one (p:Wc):∀ u∈wcE p,u.oneCell'=true:=fun u hu=>by
 simp only[List.mem_cons,List.not_mem_nil,or_false] at hu
 rcases hu with rfl|rfl <;> rfl
structure WcR (w:World) (B:Nat) (x:Wc) (z:Int):Prop where
 s:x.s=decide (z<0)
 n:Lim w x.a x.k x.c (canon z.natAbs)
 f:∀ b off,x.a=some ⟨b,off,none⟩→B≤b
theorem WcR.mono {w:World} {B B':Nat} {x:Wc} {z:Int} (h:WcR w B x z) (hb:B'≤B):WcR w B' x z:=⟨h.s,h.n,fun b off e=>Nat.le_trans hb (h.f b off e)⟩
theorem WcR.kept {w w':World} {B:Nat} {x:Wc} {z:Int} (h:WcR w B x z) (hs:w.heap.size≤w'.heap.size) (hb:∀ b,B≤b→b<w.heap.size→w'.heap[b]? = w.heap[b]?):WcR w' B x z:=⟨h.s,Lim.kept h.n h.f hs hb,h.f⟩
structure RowW (w:World) (r:Nat) (zs:List Int):Prop where
 row:∃ xs:List Wc,xs.length=zs.length∧w.rangeAt r 0 (xs.flatMap wcE)∧w.there r 0 (zs.length*2) ∧ ∀ i (h:i<xs.length) (h':i<zs.length),WcR w (r+1) xs[i] zs[i]
 lt:r<w.heap.size
theorem RowW.kept {w w':World} {r:Nat} {zs:List Int} (h:RowW w r zs) (hs:w.heap.size≤w'.heap.size) (hb:∀ b,r≤b→b<w.heap.size→w'.heap[b]? = w.heap[b]?):RowW w' r zs:=by
 obtain⟨⟨xs,h1,h2,h3,h4⟩,lt⟩:=h
 have e:=hb r (Nat.le_refl _) lt
 refine⟨⟨xs,h1,fun j v hv=>(World.cell?_of_block (a:=⟨r,0+j,none⟩) e).trans (h2 j v hv),fun j hj=>?_,fun i hi hi'=>(h4 i hi hi').kept hs (fun b g1 g2=>hb b (by omega) g2)⟩,Nat.lt_of_lt_of_le lt hs⟩
 obtain⟨q1,q2⟩:=h3 j hj
 exact⟨by rw[World.cell?_of_block (a:=⟨r,0+j,none⟩) e];exact q1,by rw[World.frozen?_of_block (a:=⟨r,0+j,none⟩) e];exact q2⟩
theorem RowW.below {w w':World} {r:Nat} {zs:List Int} (h:RowW w r zs) (hb:Below w.heap.size w w'):RowW w' r zs:=h.kept hb.size (fun b _ h2=>hb.block b h2)
theorem RowW.cell {w:World} {r:Nat} {zs:List Int} (h:RowW w r zs) {i:Nat} (hi:i<zs.length):∃ x:Wc,w.cell? ⟨r,i*2,none⟩=some (.bool x.s)∧w.cell? ⟨r,i*2+1,none⟩=some (.slice x.a x.k x.c)∧w.frozen? ⟨r,i*2,none⟩=false∧w.frozen? ⟨r,i*2+1,none⟩=false∧WcR w (r+1) x zs[i]:=by
 obtain⟨⟨xs,h1,h2,h3,h4⟩,lt⟩:=h
 have hx:i<xs.length:=by omega
 have c0:=h2 (i*2+0) (.bool xs[i].s) (flat_get (k:=2) (fun _=>rfl) hx rfl)
 have c1:=h2 (i*2+1) (.slice xs[i].a xs[i].k xs[i].c) (flat_get (k:=2) (fun _=>rfl) hx rfl)
 have f0:=(h3 (i*2) (by omega)).2
 have f1:=(h3 (i*2+1) (by omega)).2
 rw[Nat.zero_add] at c0 c1 f0 f1
 exact⟨xs[i],c0,c1,f0,f1,h4 i hx hi⟩
theorem wflat_set (xs:List Wc) (i:Nat) (x:Wc) (hi:i<xs.length):∀ j,((xs.set i x).flatMap wcE)[j]? = if j=i*2 then some (.bool x.s) else if j=i*2+1 then some (.slice x.a x.k x.c) else(xs.flatMap wcE)[j]?:=by
 induction xs generalizing i with
 | nil=>simp at hi
 | cons y ys ih =>
  intro j
  cases i with
  | zero =>
   rw[List.set_cons_zero,List.flatMap_cons,List.flatMap_cons]
   match j with
   | 0=>rfl
   | 1=>rfl
   | j+2=>simp[wcE,wdV]
  | succ i =>
   rw[List.set_cons_succ,List.flatMap_cons,List.flatMap_cons]
   match j with
   | 0=>rw[if_neg (show ¬ 0=(i+1)*2 by omega),if_neg (show ¬ 0=(i+1)*2+1 by omega)];rfl
   | 1=>rw[if_neg (show ¬ 1=(i+1)*2 by omega),if_neg (show ¬ 1=(i+1)*2+1 by omega)];rfl
   | j+2 =>
    have:=ih i (by simpa using hi) j
    show ((ys.set i x).flatMap wcE)[j]? = _
    rw[this]
    by_cases h1:j=i*2
    ·rw[if_pos h1,if_pos (show j+2=(i+1)*2 by omega)]
    ·rw[if_neg h1,if_neg (show ¬ j+2=(i+1)*2 by omega)]
     by_cases h2:j=i*2+1
     ·rw[if_pos h2,if_pos (show j+2=(i+1)*2+1 by omega)]
     ·rw[if_neg h2,if_neg (show ¬ j+2=(i+1)*2+1 by omega)]
      rfl
theorem RowW.set {w:World} {r:Nat} {zs:List Int} (h:RowW w r zs) {i:Nat} (hi:i<zs.length) (x:Wc) (z:Int) (hx:WcR w (r+1) x z):RowW (w.setCells r (i*2) (wcE x)) r (zs.set i z):=by
 obtain⟨⟨xs,h1,h2,h3,h4⟩,lt⟩:=h
 have hix:i<xs.length:=by omega
 have hz:(w.setCells r (i*2) (wcE x)).heap.size=w.heap.size:=sizes _ _ _ _
 have ho:∀ b,r+1≤b→(w.setCells r (i*2) (wcE x)).heap[b]? = w.heap[b]?:=fun b hb=>by
  show ((w.setCell ⟨r,i*2,none⟩ (.bool x.s)).setCell ⟨r,i*2+1,none⟩ (.slice x.a x.k x.c)).heap[b]? = _
  rw[heap_other (by omega),heap_other (by omega)]
 refine⟨⟨xs.set i x,by simpa using h1,fun j v hv=>?_,?_,fun j hj hj'=>?_⟩,by rw[hz];exact lt⟩
 ·rw[wflat_set xs i x hix] at hv
  rw[Nat.zero_add]
  by_cases e1:j=i*2
  ·rw[if_pos e1] at hv
   subst e1
   have:=World.cell?_setCells_in r (wcE x) (i*2) w (fun j hj=>by
    have:=(h3 (i*2+j) (by simp at hj;omega)).1
    rwa [Nat.zero_add] at this) 0 (by simp)
   rw[Nat.add_zero] at this
   rw[this]
   exact hv
  ·rw[if_neg e1] at hv
   by_cases e2:j=i*2+1
   ·rw[if_pos e2] at hv
    subst e2
    rw[World.cell?_setCells_in r (wcE x) (i*2) w (fun j hj=>by
     have:=(h3 (i*2+j) (by simp at hj;omega)).1
     rwa [Nat.zero_add] at this) 1 (by simp)]
    exact hv
   ·rw[if_neg e2] at hv
    rw[World.cell?_setCells_out r (wcE x) (i*2) w ⟨r,j,none⟩ (fun _ _=>by show j<i*2∨i*2+2≤j;omega)]
    have:=h2 j v hv
    rwa [Nat.zero_add] at this
 ·rw[List.length_set]
  exact World.there_setCells h3 r (i*2) (wcE x)
 ·have hj1:j<xs.length:=by simpa using hj
  have hj2:j<zs.length:=by simpa using hj'
  by_cases e:i=j
  ·subst e
   rw[List.getElem_set_self,List.getElem_set_self]
   exact hx.kept (by rw[hz];exact Nat.le_refl _) (fun b hb _=>ho b hb)
  ·rw[List.getElem_set_ne e,List.getElem_set_ne e]
   exact(h4 j hj1 hj2).kept (by rw[hz];exact Nat.le_refl _) (fun b hb _=>ho b hb)
end Wd
end Go.Proofs.YtdnogmanbdgadaaGreatDoor
