/-
  Lemmas and walks, texts joined: QClo.
-/
import Derived.Test.YtdnogmanbdgadaaGreatDoorTb22
set_option linter.unusedSimpArgs false
set_option linter.unusedVariables false
set_option maxRecDepth 100000
set_option maxHeartbeats 40000000
namespace Go.Proofs.YtdnogmanbdgadaaGreatDoor
namespace Wd
open Go.RowKit Lw Tw

def EX (w0:World) (L1 L2:List Value) (w:World):Prop:=∃ x y x' y',Fr w0 [(w0.heap.size+1+1+1,[x',y']),(w0.heap.size+1+1,[x,y]),(w0.heap.size+1,L2),(w0.heap.size,L1)] w
theorem EX.call {w0 w w':World} {L1 L2:List Value} (h:EX w0 L1 L2 w) (hb:Below w.heap.size w w'):EX w0 L1 L2 w':=by
 obtain⟨x,y,x',y',h⟩:=h
 exact⟨x,y,x',y',h.call hb⟩
theorem EX.drew {w0 w:World} {L1 L2:List Value} (h:EX w0 L1 L2 w):EX w0 L1 L2 w.drew:=by
 obtain⟨x,y,x',y',h⟩:=h
 exact⟨x,y,x',y',h.drew⟩
theorem EX.below {w0 w:World} {L1 L2:List Value} (h:EX w0 L1 L2 w):Below w0.heap.size w0 w:=by
 obtain⟨x,y,x',y',h⟩:=h
 exact h.below
theorem EX.size {w0 w:World} {L1 L2:List Value} (h:EX w0 L1 L2 w):w0.heap.size+4≤w.heap.size:=by
 obtain⟨x,y,x',y',h⟩:=h
 exact(h.least 0 rfl).2
theorem EX.st4 {w0 w:World} {L1 L2:List Value} (h:EX w0 L1 L2 w) (u v:Value):EX w0 L1 L2 ((w.setCell ⟨w0.heap.size+1+1,0,none⟩ u).setCell ⟨w0.heap.size+1+1,1,none⟩ v):=by
 obtain⟨x,y,x',y',h⟩:=h
 exact⟨u,v,x',y',h.put 1 rfl [u,v] rfl⟩
theorem EX.st5 {w0 w:World} {L1 L2:List Value} (h:EX w0 L1 L2 w) (u v:Value):EX w0 L1 L2 ((w.setCell ⟨w0.heap.size+1+1+1,0,none⟩ u).setCell ⟨w0.heap.size+1+1+1,1,none⟩ v):=by
 obtain⟨x,y,x',y',h⟩:=h
 exact⟨x,y,u,v,h.put 0 rfl [u,v] rfl⟩
theorem EX.both {w0 w:World} {L1 L2:List Value} (h:EX w0 L1 L2 w) (u v u' v':Value):Fr w0 [(w0.heap.size+1+1+1,[u',v']),(w0.heap.size+1+1,[u,v]),(w0.heap.size+1,L2),(w0.heap.size,L1)] ((w.setCells (w0.heap.size+1+1) 0 [u,v]).setCells (w0.heap.size+1+1+1) 0 [u',v']):=by
 obtain⟨x,y,x',y',h⟩:=h
 exact(h.put 1 rfl [u,v] rfl).put 0 rfl [u',v'] rfl
abbrev EXS (w0:World) (n1:Bool) (a1:Option Addr) (i1 c1:Nat) (b1:Option Addr) (j1 d1:Nat) (n2:Bool) (a2:Option Addr) (i2 c2:Nat) (b2:Option Addr) (j2 d2:Nat) (w:World):Prop :=
 w.cell? ⟨w0.heap.size,0,none⟩=some (.bool n1)∧w.cell? ⟨w0.heap.size,1,none⟩=some (.slice a1 i1 c1)∧w.cell? ⟨w0.heap.size,2,none⟩=some (.bool false)∧w.cell? ⟨w0.heap.size,3,none⟩=some (.slice b1 j1 d1) ∧
 w.cell? ⟨w0.heap.size+1,0,none⟩=some (.bool n2)∧w.cell? ⟨w0.heap.size+1,1,none⟩=some (.slice a2 i2 c2)∧w.cell? ⟨w0.heap.size+1,2,none⟩=some (.bool false)∧w.cell? ⟨w0.heap.size+1,3,none⟩=some (.slice b2 j2 d2) ∧
 w.cell? ⟨w0.heap.size+1+1,0,none⟩=some (cellOf w ⟨w0.heap.size+1+1,0,none⟩)∧w.cell? ⟨w0.heap.size+1+1,1,none⟩=some (cellOf w ⟨w0.heap.size+1+1,1,none⟩) ∧
 w.cell? ⟨w0.heap.size+1+1+1,0,none⟩=some (cellOf w ⟨w0.heap.size+1+1+1,0,none⟩)∧w.cell? ⟨w0.heap.size+1+1+1,1,none⟩=some (cellOf w ⟨w0.heap.size+1+1+1,1,none⟩) ∧
 w.frozen? ⟨w0.heap.size+1+1,0,none⟩=false∧w.frozen? ⟨w0.heap.size+1+1,1,none⟩=false∧w.frozen? ⟨w0.heap.size+1+1+1,0,none⟩=false∧w.frozen? ⟨w0.heap.size+1+1+1,1,none⟩=false ∧
 EX w0 (frV n1 a1 i1 c1 false b1 j1 d1) (frV n2 a2 i2 c2 false b2 j2 d2) w
section
variable {w0 w : World} {n1 : Bool} {a1 : Option Addr} {i1 c1 : Nat} {b1 : Option Addr} {j1 d1 : Nat} {n2 : Bool} {a2 : Option Addr} {i2 c2 : Nat} {b2 : Option Addr} {j2 d2 : Nat}
theorem EX.s (h:EX w0 (frV n1 a1 i1 c1 false b1 j1 d1) (frV n2 a2 i2 c2 false b2 j2 d2) w):EXS w0 n1 a1 i1 c1 b1 j1 d1 n2 a2 i2 c2 b2 j2 d2 w:=by
 have h0:=h
 obtain⟨x,y,x',y',h⟩:=h
 have is:∀ p,∀ v,w.cell? p=some v→(w.cell? p).isSome=true:=fun p v e=>by rw[e];rfl
 exact⟨h.cell 3 0 rfl rfl,h.cell 3 1 rfl rfl,h.cell 3 2 rfl rfl,h.cell 3 3 rfl rfl,h.cell 2 0 rfl rfl,h.cell 2 1 rfl rfl,h.cell 2 2 rfl rfl,h.cell 2 3 rfl rfl,
  cellOf_some (is _ _ (h.cell 1 0 rfl rfl)),cellOf_some (is _ _ (h.cell 1 1 rfl rfl)),cellOf_some (is _ _ (h.cell 0 0 rfl rfl)),cellOf_some (is _ _ (h.cell 0 1 rfl rfl)),h.fz 1 0 rfl rfl,h.fz 1 1 rfl rfl,h.fz 0 0 rfl rfl,h.fz 0 1 rfl rfl,h0⟩
theorem EXS.ex (h:EXS w0 n1 a1 i1 c1 b1 j1 d1 n2 a2 i2 c2 b2 j2 d2 w):EX w0 (frV n1 a1 i1 c1 false b1 j1 d1) (frV n2 a2 i2 c2 false b2 j2 d2) w:=h.2.2.2.2.2.2.2.2.2.2.2.2.2.2.2.2
end
section
variable {P : Program}
theorem ret_cells2 {fn:Func} {p q:Tmp} {ty:TypeId} (h:fn.results = #[.cell p ty, .cell q ty]) (tmps:Array Value) (w:World) (b c:Nat) (cs ds:List Value) (d:TypeDesc)
  (hp:tmps.getD p undef = .pointer (some ⟨b,0,none⟩)) (hq:tmps.getD q undef = .pointer (some ⟨c,0,none⟩)) (hr:w.rangeAt b 0 cs) (hs:w.rangeAt c 0 ds) (hu:P.underlying ty=some d) (hd:d.isRow=true) (hi:(P.info? ty).map (·.size)=some cs.length) (hj:(P.info? ty).map (·.size)=some ds.length) :
  (results fn tmps).run P w = .ok (.tuple #[.agg cs.toArray, .agg ds.toArray]) w:=by
 have hp':tmps[p]?.getD undef = .pointer (some ⟨b,0,none⟩):=by simpa using hp
 have hq':tmps[q]?.getD undef = .pointer (some ⟨c,0,none⟩):=by simpa using hq
 simp[results,h,hp',hq',asAddr,run_loadVar_mid w b 0 ty cs d hr hu hd hi,run_loadVar_mid w c 0 ty ds d hs hu hd hj,Result.andThen]
end
def CPost (w:World) (N D:Int) (e:Ending) (w':World):Prop:=∃ V1 V2,e = .returned (.tuple #[V1,V2])∧Wide 0 w' V1 N∧Wide 0 w' V2 D∧Below w.heap.size w w'
theorem cpost_fin {w w':World} {L1 L2:List Value} {N D:Int} {a:Option Addr} {k c:Nat} {a':Option Addr} {k' c':Nat} (h:EX w L1 L2 w') (h1:Lim w' a k c (canon N.natAbs)) (h2:Lim w' a' k' c' (canon D.natAbs)) (g1:∀ b off,a=some ⟨b,off,none⟩→w.heap.size+4≤b) (g2:∀ b off,a'=some ⟨b,off,none⟩→w.heap.size+4≤b) :
  Hid (World.rangeAt ((w'.setCells (w.heap.size+1+1) 0 (wdV (decide (N<0)) a k c)).setCells (w.heap.size+1+1+1) 0 (wdV (decide (D<0)) a' k' c')) (w.heap.size+1+1) 0 (wdV (decide (N<0)) a k c) ∧
  World.rangeAt ((w'.setCells (w.heap.size+1+1) 0 (wdV (decide (N<0)) a k c)).setCells (w.heap.size+1+1+1) 0 (wdV (decide (D<0)) a' k' c')) (w.heap.size+1+1+1) 0 (wdV (decide (D<0)) a' k' c') ∧
  CPost w N D (.returned (.tuple #[.agg (wdV (decide (N<0)) a k c).toArray, .agg (wdV (decide (D<0)) a' k' c').toArray])) ((w'.setCells (w.heap.size+1+1) 0 (wdV (decide (N<0)) a k c)).setCells (w.heap.size+1+1+1) 0 (wdV (decide (D<0)) a' k' c'))):=by
 have F:=h.both (.bool (decide (N<0))) (.slice a k c) (.bool (decide (D<0))) (.slice a' k' c')
 exact Lib.hid ⟨F.get 1 rfl,F.get 0 rfl,_,_,rfl,wide0 ((h1.setCells (fun b off e=>by have:=g1 b off e;omega) _ _).setCells (fun b off e=>by have:=g1 b off e;omega) _ _),wide0 ((h2.setCells (fun b off e=>by have:=g2 b off e;omega) _ _).setCells (fun b off e=>by have:=g2 b off e;omega) _ _),F.below⟩
theorem clo_mul (V1 V2:Value) (r1 r2:Rat) (w:World) (h1:FracR 0 w V1 r1) (h2:FracR 0 w V2 r2) (l1:FL r1 900) (l2:FL r2 900) :
  Calls Tryz.prog 127 #[V1,V2] w (CPost w (r1.num*r2.num) ((r1.den:Int)*(r2.den:Int))):=by
 obtain⟨a1,i1,c1,b1,j1,d1,rfl,hA1,hB1, -, -⟩:=h1
 obtain⟨a2,i2,c2,b2,j2,d2,rfl,hA2,hB2, -, -⟩:=h2
 have e1:=hA1.len
 have e2:=hB1.len
 have e3:=hA2.len
 have e4:=hB2.len
 have x1:=l1.n
 have x2:=l1.d
 have x3:=l2.n
 have x4:=l2.d
 have M1:=Lib.hid (fun w' (hb:Below w.heap.size w w')=>mul_walk _ _ r1.num r2.num w' (wide0 (hA1.below hb)) (wide0 (hA2.below hb)) (by omega))
 have M2:=Lib.hid (fun w' (hb:Below w.heap.size w w')=>mul_walk _ _ (r1.den:Int) (r2.den:Int) w' (wide0N (hB1.below hb)) (wide0N (hB2.below hb)) (by rw[Int.natAbs_natCast,Int.natAbs_natCast];omega))
 have F0:=(((Fr.start w).alloc (frV (decide (r1.num<0)) a1 i1 c1 false b1 j1 d1) 68).alloc (frV (decide (r2.num<0)) a2 i2 c2 false b2 j2 d2) 68).alloc [.bool false, .slice none 0 0] 66 |>.alloc [.bool false, .slice none 0 0] 66
 simp only[World.size_alloc] at F0
 have hk:EX w (frV (decide (r1.num<0)) a1 i1 c1 false b1 j1 d1) (frV (decide (r2.num<0)) a2 i2 c2 false b2 j2 d2) _:=⟨_,_,_,_,F0⟩
 generalize decide (r1.num<0)=n1 at *
 generalize decide (r2.num<0)=n2 at *
 generalize r1.num*r2.num=N at *
 generalize (r1.den:Int)*(r2.den:Int)=D at *
 clear hA1 hB1 hA2 hB2 e1 e2 e3 e4 x1 x2 x3 x4 l1 l2 F0
 replace hk:=Lib.hid hk
 go_enter Tryz.func127,Tryz.ntmps127
 go_wp2_with fail
 have KB:=fun w' (h:EXS w n1 a1 i1 c1 b1 j1 d1 n2 a2 i2 c2 b2 j2 d2 w')=>h.ex.below
 have KZ:=fun w' (h:EXS w n1 a1 i1 c1 b1 j1 d1 n2 a2 i2 c2 b2 j2 d2 w')=>h.ex.size
 have KC:=fun w' w2 (h:EXS w n1 a1 i1 c1 b1 j1 d1 n2 a2 i2 c2 b2 j2 d2 w') (hb:Below w'.heap.size w' w2)=>h.ex.call hb
 replace hk:=hk.out
 go_region_held3 (fun w'=>w'.cell? ⟨w.heap.size,0,none⟩=some (.bool n1)∧w'.cell? ⟨w.heap.size,1,none⟩=some (.slice a1 i1 c1)∧w'.cell? ⟨w.heap.size,2,none⟩=some (.bool false)∧w'.cell? ⟨w.heap.size,3,none⟩=some (.slice b1 j1 d1) ∧
 w'.cell? ⟨w.heap.size+1,0,none⟩=some (.bool n2)∧w'.cell? ⟨w.heap.size+1,1,none⟩=some (.slice a2 i2 c2)∧w'.cell? ⟨w.heap.size+1,2,none⟩=some (.bool false)∧w'.cell? ⟨w.heap.size+1,3,none⟩=some (.slice b2 j2 d2) ∧
 w'.cell? ⟨w.heap.size+1+1,0,none⟩=some (cellOf w' ⟨w.heap.size+1+1,0,none⟩)∧w'.cell? ⟨w.heap.size+1+1,1,none⟩=some (cellOf w' ⟨w.heap.size+1+1,1,none⟩) ∧
 w'.cell? ⟨w.heap.size+1+1+1,0,none⟩=some (cellOf w' ⟨w.heap.size+1+1+1,0,none⟩)∧w'.cell? ⟨w.heap.size+1+1+1,1,none⟩=some (cellOf w' ⟨w.heap.size+1+1+1,1,none⟩) ∧
 w'.frozen? ⟨w.heap.size+1+1,0,none⟩=false∧w'.frozen? ⟨w.heap.size+1+1,1,none⟩=false∧w'.frozen? ⟨w.heap.size+1+1+1,0,none⟩=false∧w'.frozen? ⟨w.heap.size+1+1+1,1,none⟩=false ∧
 EX w (frV n1 a1 i1 c1 false b1 j1 d1) (frV n2 a2 i2 c2 false b2 j2 d2) w') (first|with_reducible exact EX.s (EX.drew hk)|with_reducible exact EX.s hk|with_reducible exact EX.s (EX.st5 (EX.st4 hk _ _) _ _)|with_reducible exact EX.s (EX.st4 hk _ _)|with_reducible assumption) (first|(go_at_call 86;(with_reducible refine(M1.out _ (KB _ (by assumption))).mono ?_);rintro e w' ⟨V1,rfl,⟨e1,f1,g1,rfl,hL,hg⟩,hb⟩;have HG1:=Lib.hid (fun b off e=>Nat.le_trans (KZ _ (by assumption)) (hg b off e));have hk:=KC _ _ (by assumption) hb;have HL1:=Lib.hid hL;clear hb hL hg)|(go_at_call 86;(with_reducible refine(M2.out _ (KB _ (by assumption))).mono ?_);rintro e w' ⟨V2,rfl,⟨e2,f2,g2,rfl,hL,hg⟩,hb⟩;have HG2:=Lib.hid (fun b off e=>Nat.le_trans (KZ _ (by assumption)) (hg b off e));have hk:=KC _ _ (by assumption) hb;have HL2:=Lib.hid hL;replace HL1:=Lib.hid (HL1.out.below hb);clear hb hL hg)|(go_at_call 128;refine(must_walk _ _ _ _ _).mono ?_;rintro e w' ⟨rfl,hb⟩;have hk:=EX.call hk hb;(first|replace HL1:=Lib.hid (HL1.out.below hb)|skip);(first|replace HL2:=Lib.hid (HL2.out.below hb)|skip);(first|replace HL3:=Lib.hid (HL3.out.below hb)|skip);(first|replace HL4:=Lib.hid (HL4.out.below hb)|skip);clear hb))
 have F:=cpost_fin hk HL1.out HL2.out HG1.out HG2.out
 clear hk KB KZ KC
 go_wp2_with fail
 exact bodyPost_ret (ret_cells2 Tryz.results127 _ _ (w.heap.size+1+1) (w.heap.size+1+1+1) _ _ _ rfl rfl F.out.1 F.out.2.1 Tryz.underlying66 rfl infoW infoW) rfl F.out.2.2
theorem clo_add (V1 V2:Value) (r1 r2:Rat) (w:World) (h1:FracR 0 w V1 r1) (h2:FracR 0 w V2 r2) (l1:FL r1 900) (l2:FL r2 900) :
  Calls Tryz.prog 145 #[V1,V2] w (CPost w (r1.num*(r2.den:Int)+r2.num*(r1.den:Int)) ((r1.den:Int)*(r2.den:Int))):=by
 obtain⟨a1,i1,c1,b1,j1,d1,rfl,hA1,hB1, -, -⟩:=h1
 obtain⟨a2,i2,c2,b2,j2,d2,rfl,hA2,hB2, -, -⟩:=h2
 have e1:=hA1.len
 have e2:=hB1.len
 have e3:=hA2.len
 have e4:=hB2.len
 have x1:=l1.n
 have x2:=l1.d
 have x3:=l2.n
 have x4:=l2.d
 have CR1:=Lib.hid (fun w' (hb:Below w.heap.size w w')=>cross_any r1 r2 a1 b1 a2 b2 i1 c1 j1 d1 i2 c2 j2 d2 (decide (r2.num<0)) w' (hA1.below hb) (hB2.below hb) (by omega) (by omega))
 have CR2:=Lib.hid (fun w' (hb:Below w.heap.size w w')=>cross_any r2 r1 a2 b2 a1 b1 i2 c2 j2 d2 i1 c1 j1 d1 (decide (r1.num<0)) w' (hA2.below hb) (hB1.below hb) (by omega) (by omega))
 have M2:=Lib.hid (fun w' (hb:Below w.heap.size w w')=>mul_walk _ _ (r1.den:Int) (r2.den:Int) w' (wide0N (hB1.below hb)) (wide0N (hB2.below hb)) (by rw[Int.natAbs_natCast,Int.natAbs_natCast];omega))
 have q1:=cross_len l1 l2
 have q2:=cross_len l2 l1
 have AD:=Lib.hid (fun w' a k c a' k' c' (h:Lim w' a k c (canon (r1.num*(r2.den:Int)).natAbs)) (h2:Lim w' a' k' c' (canon (r2.num*(r1.den:Int)).natAbs))=>addZ_any _ _ (r1.num*(r2.den:Int)) (r2.num*(r1.den:Int)) w' (wide0 h) (wide0 h2) (by omega))
 clear q1 q2
 have F0:=(((Fr.start w).alloc (frV (decide (r1.num<0)) a1 i1 c1 false b1 j1 d1) 68).alloc (frV (decide (r2.num<0)) a2 i2 c2 false b2 j2 d2) 68).alloc [.bool false, .slice none 0 0] 66 |>.alloc [.bool false, .slice none 0 0] 66
 simp only[World.size_alloc] at F0
 have hk:EX w (frV (decide (r1.num<0)) a1 i1 c1 false b1 j1 d1) (frV (decide (r2.num<0)) a2 i2 c2 false b2 j2 d2) _:=⟨_,_,_,_,F0⟩
 generalize decide (r1.num<0)=n1 at *
 generalize decide (r2.num<0)=n2 at *
 generalize r1.num*(r2.den:Int)=P1 at *
 generalize r2.num*(r1.den:Int)=P2 at *
 generalize (r1.den:Int)*(r2.den:Int)=D at *
 clear hA1 hB1 hA2 hB2 e1 e2 e3 e4 x1 x2 x3 x4 l1 l2 F0
 replace hk:=Lib.hid hk
 go_enter Tryz.func145,Tryz.ntmps145
 go_wp2_with fail
 have KB:=fun w' (h:EXS w n1 a1 i1 c1 b1 j1 d1 n2 a2 i2 c2 b2 j2 d2 w')=>h.ex.below
 have KZ:=fun w' (h:EXS w n1 a1 i1 c1 b1 j1 d1 n2 a2 i2 c2 b2 j2 d2 w')=>h.ex.size
 have KC:=fun w' w2 (h:EXS w n1 a1 i1 c1 b1 j1 d1 n2 a2 i2 c2 b2 j2 d2 w') (hb:Below w'.heap.size w' w2)=>h.ex.call hb
 replace hk:=hk.out
 go_region_held3 (fun w'=>w'.cell? ⟨w.heap.size,0,none⟩=some (.bool n1)∧w'.cell? ⟨w.heap.size,1,none⟩=some (.slice a1 i1 c1)∧w'.cell? ⟨w.heap.size,2,none⟩=some (.bool false)∧w'.cell? ⟨w.heap.size,3,none⟩=some (.slice b1 j1 d1) ∧
 w'.cell? ⟨w.heap.size+1,0,none⟩=some (.bool n2)∧w'.cell? ⟨w.heap.size+1,1,none⟩=some (.slice a2 i2 c2)∧w'.cell? ⟨w.heap.size+1,2,none⟩=some (.bool false)∧w'.cell? ⟨w.heap.size+1,3,none⟩=some (.slice b2 j2 d2) ∧
 w'.cell? ⟨w.heap.size+1+1,0,none⟩=some (cellOf w' ⟨w.heap.size+1+1,0,none⟩)∧w'.cell? ⟨w.heap.size+1+1,1,none⟩=some (cellOf w' ⟨w.heap.size+1+1,1,none⟩) ∧
 w'.cell? ⟨w.heap.size+1+1+1,0,none⟩=some (cellOf w' ⟨w.heap.size+1+1+1,0,none⟩)∧w'.cell? ⟨w.heap.size+1+1+1,1,none⟩=some (cellOf w' ⟨w.heap.size+1+1+1,1,none⟩) ∧
 w'.frozen? ⟨w.heap.size+1+1,0,none⟩=false∧w'.frozen? ⟨w.heap.size+1+1,1,none⟩=false∧w'.frozen? ⟨w.heap.size+1+1+1,0,none⟩=false∧w'.frozen? ⟨w.heap.size+1+1+1,1,none⟩=false ∧
 EX w (frV n1 a1 i1 c1 false b1 j1 d1) (frV n2 a2 i2 c2 false b2 j2 d2) w') (first|with_reducible exact EX.s (EX.drew hk)|with_reducible exact EX.s hk|with_reducible exact EX.s (EX.st5 (EX.st4 hk _ _) _ _)|with_reducible exact EX.s (EX.st4 hk _ _)|with_reducible assumption) (first|(go_at_call 147;(with_reducible refine(CR1.out _ (KB _ (by assumption))).mono ?_);rintro e w' ⟨V1,rfl,⟨e1,f1,g1,rfl,hL,hg⟩,hb⟩;have HG1:=Lib.hid (fun b off e=>Nat.le_trans (KZ _ (by assumption)) (hg b off e));have hk:=KC _ _ (by assumption) hb;have HL1:=Lib.hid hL;clear hb hL hg)|(go_at_call 147;(with_reducible refine(CR2.out _ (KB _ (by assumption))).mono ?_);rintro e w' ⟨V2,rfl,⟨e2,f2,g2,rfl,hL,hg⟩,hb⟩;have HG2:=Lib.hid (fun b off e=>Nat.le_trans (KZ _ (by assumption)) (hg b off e));have hk:=KC _ _ (by assumption) hb;have HL2:=Lib.hid hL;replace HL1:=Lib.hid (HL1.out.below hb);clear hb hL hg)|(go_at_call 146;(with_reducible refine(AD.out _ _ _ _ _ _ _ HL1.out HL2.out).mono ?_);rintro e w' ⟨V3,rfl,⟨e3,f3,g3,rfl,hL,hg⟩,hb⟩;have HG3:=Lib.hid (fun b off e=>Nat.le_trans (KZ _ (by assumption)) (hg b off e));have hk:=KC _ _ (by assumption) hb;have HL3:=Lib.hid hL;clear hb hL hg)|(go_at_call 86;(with_reducible refine(M2.out _ (KB _ (by assumption))).mono ?_);rintro e w' ⟨V4,rfl,⟨e4,f4,g4,rfl,hL,hg⟩,hb⟩;have HG4:=Lib.hid (fun b off e=>Nat.le_trans (KZ _ (by assumption)) (hg b off e));have hk:=KC _ _ (by assumption) hb;have HL4:=Lib.hid hL;replace HL3:=Lib.hid (HL3.out.below hb);clear hb hL hg)|(go_at_call 128;refine(must_walk _ _ _ _ _).mono ?_;rintro e w' ⟨rfl,hb⟩;have hk:=EX.call hk hb;(first|replace HL1:=Lib.hid (HL1.out.below hb)|skip);(first|replace HL2:=Lib.hid (HL2.out.below hb)|skip);(first|replace HL3:=Lib.hid (HL3.out.below hb)|skip);(first|replace HL4:=Lib.hid (HL4.out.below hb)|skip);clear hb))
 have F:=cpost_fin hk HL3.out HL4.out HG3.out HG4.out
 clear hk KB KZ KC
 go_wp2_with fail
 exact bodyPost_ret (ret_cells2 Tryz.results145 _ _ (w.heap.size+1+1) (w.heap.size+1+1+1) _ _ _ rfl rfl F.out.1 F.out.2.1 Tryz.underlying66 rfl infoW infoW) rfl F.out.2.2
theorem clo_sub (V1 V2:Value) (r1 r2:Rat) (w:World) (h1:FracR 0 w V1 r1) (h2:FracR 0 w V2 r2) (l1:FL r1 900) (l2:FL r2 900) :
  Calls Tryz.prog 182 #[V1,V2] w (CPost w (r1.num*(r2.den:Int)-r2.num*(r1.den:Int)) ((r1.den:Int)*(r2.den:Int))):=by
 obtain⟨a1,i1,c1,b1,j1,d1,rfl,hA1,hB1, -, -⟩:=h1
 obtain⟨a2,i2,c2,b2,j2,d2,rfl,hA2,hB2, -, -⟩:=h2
 have e1:=hA1.len
 have e2:=hB1.len
 have e3:=hA2.len
 have e4:=hB2.len
 have x1:=l1.n
 have x2:=l1.d
 have x3:=l2.n
 have x4:=l2.d
 have CR1:=Lib.hid (fun w' (hb:Below w.heap.size w w')=>cross_any r1 r2 a1 b1 a2 b2 i1 c1 j1 d1 i2 c2 j2 d2 (decide (r2.num<0)) w' (hA1.below hb) (hB2.below hb) (by omega) (by omega))
 have CR2:=Lib.hid (fun w' (hb:Below w.heap.size w w')=>cross_any r2 r1 a2 b2 a1 b1 i2 c2 j2 d2 i1 c1 j1 d1 (decide (r1.num<0)) w' (hA2.below hb) (hB1.below hb) (by omega) (by omega))
 have M2:=Lib.hid (fun w' (hb:Below w.heap.size w w')=>mul_walk _ _ (r1.den:Int) (r2.den:Int) w' (wide0N (hB1.below hb)) (wide0N (hB2.below hb)) (by rw[Int.natAbs_natCast,Int.natAbs_natCast];omega))
 have q1:=cross_len l1 l2
 have q2:=cross_len l2 l1
 have AD:=Lib.hid (fun w' a k c a' k' c' (h:Lim w' a k c (canon (r1.num*(r2.den:Int)).natAbs)) (h2:Lim w' a' k' c' (canon (r2.num*(r1.den:Int)).natAbs))=>subZ_any _ _ (r1.num*(r2.den:Int)) (r2.num*(r1.den:Int)) w' (wide0 h) (wide0 h2) (by omega))
 clear q1 q2
 have F0:=(((Fr.start w).alloc (frV (decide (r1.num<0)) a1 i1 c1 false b1 j1 d1) 68).alloc (frV (decide (r2.num<0)) a2 i2 c2 false b2 j2 d2) 68).alloc [.bool false, .slice none 0 0] 66 |>.alloc [.bool false, .slice none 0 0] 66
 simp only[World.size_alloc] at F0
 have hk:EX w (frV (decide (r1.num<0)) a1 i1 c1 false b1 j1 d1) (frV (decide (r2.num<0)) a2 i2 c2 false b2 j2 d2) _:=⟨_,_,_,_,F0⟩
 generalize decide (r1.num<0)=n1 at *
 generalize decide (r2.num<0)=n2 at *
 generalize r1.num*(r2.den:Int)=P1 at *
 generalize r2.num*(r1.den:Int)=P2 at *
 generalize (r1.den:Int)*(r2.den:Int)=D at *
 clear hA1 hB1 hA2 hB2 e1 e2 e3 e4 x1 x2 x3 x4 l1 l2 F0
 replace hk:=Lib.hid hk
 go_enter Tryz.func182,Tryz.ntmps182
 go_wp2_with fail
 have KB:=fun w' (h:EXS w n1 a1 i1 c1 b1 j1 d1 n2 a2 i2 c2 b2 j2 d2 w')=>h.ex.below
 have KZ:=fun w' (h:EXS w n1 a1 i1 c1 b1 j1 d1 n2 a2 i2 c2 b2 j2 d2 w')=>h.ex.size
 have KC:=fun w' w2 (h:EXS w n1 a1 i1 c1 b1 j1 d1 n2 a2 i2 c2 b2 j2 d2 w') (hb:Below w'.heap.size w' w2)=>h.ex.call hb
 replace hk:=hk.out
 go_region_held3 (fun w'=>w'.cell? ⟨w.heap.size,0,none⟩=some (.bool n1)∧w'.cell? ⟨w.heap.size,1,none⟩=some (.slice a1 i1 c1)∧w'.cell? ⟨w.heap.size,2,none⟩=some (.bool false)∧w'.cell? ⟨w.heap.size,3,none⟩=some (.slice b1 j1 d1) ∧
 w'.cell? ⟨w.heap.size+1,0,none⟩=some (.bool n2)∧w'.cell? ⟨w.heap.size+1,1,none⟩=some (.slice a2 i2 c2)∧w'.cell? ⟨w.heap.size+1,2,none⟩=some (.bool false)∧w'.cell? ⟨w.heap.size+1,3,none⟩=some (.slice b2 j2 d2) ∧
 w'.cell? ⟨w.heap.size+1+1,0,none⟩=some (cellOf w' ⟨w.heap.size+1+1,0,none⟩)∧w'.cell? ⟨w.heap.size+1+1,1,none⟩=some (cellOf w' ⟨w.heap.size+1+1,1,none⟩) ∧
 w'.cell? ⟨w.heap.size+1+1+1,0,none⟩=some (cellOf w' ⟨w.heap.size+1+1+1,0,none⟩)∧w'.cell? ⟨w.heap.size+1+1+1,1,none⟩=some (cellOf w' ⟨w.heap.size+1+1+1,1,none⟩) ∧
 w'.frozen? ⟨w.heap.size+1+1,0,none⟩=false∧w'.frozen? ⟨w.heap.size+1+1,1,none⟩=false∧w'.frozen? ⟨w.heap.size+1+1+1,0,none⟩=false∧w'.frozen? ⟨w.heap.size+1+1+1,1,none⟩=false ∧
 EX w (frV n1 a1 i1 c1 false b1 j1 d1) (frV n2 a2 i2 c2 false b2 j2 d2) w') (first|with_reducible exact EX.s (EX.drew hk)|with_reducible exact EX.s hk|with_reducible exact EX.s (EX.st5 (EX.st4 hk _ _) _ _)|with_reducible exact EX.s (EX.st4 hk _ _)|with_reducible assumption) (first|(go_at_call 147;(with_reducible refine(CR1.out _ (KB _ (by assumption))).mono ?_);rintro e w' ⟨V1,rfl,⟨e1,f1,g1,rfl,hL,hg⟩,hb⟩;have HG1:=Lib.hid (fun b off e=>Nat.le_trans (KZ _ (by assumption)) (hg b off e));have hk:=KC _ _ (by assumption) hb;have HL1:=Lib.hid hL;clear hb hL hg)|(go_at_call 147;(with_reducible refine(CR2.out _ (KB _ (by assumption))).mono ?_);rintro e w' ⟨V2,rfl,⟨e2,f2,g2,rfl,hL,hg⟩,hb⟩;have HG2:=Lib.hid (fun b off e=>Nat.le_trans (KZ _ (by assumption)) (hg b off e));have hk:=KC _ _ (by assumption) hb;have HL2:=Lib.hid hL;replace HL1:=Lib.hid (HL1.out.below hb);clear hb hL hg)|(go_at_call 183;(with_reducible refine(AD.out _ _ _ _ _ _ _ HL1.out HL2.out).mono ?_);rintro e w' ⟨V3,rfl,⟨e3,f3,g3,rfl,hL,hg⟩,hb⟩;have HG3:=Lib.hid (fun b off e=>Nat.le_trans (KZ _ (by assumption)) (hg b off e));have hk:=KC _ _ (by assumption) hb;have HL3:=Lib.hid hL;clear hb hL hg)|(go_at_call 86;(with_reducible refine(M2.out _ (KB _ (by assumption))).mono ?_);rintro e w' ⟨V4,rfl,⟨e4,f4,g4,rfl,hL,hg⟩,hb⟩;have HG4:=Lib.hid (fun b off e=>Nat.le_trans (KZ _ (by assumption)) (hg b off e));have hk:=KC _ _ (by assumption) hb;have HL4:=Lib.hid hL;replace HL3:=Lib.hid (HL3.out.below hb);clear hb hL hg)|(go_at_call 128;refine(must_walk _ _ _ _ _).mono ?_;rintro e w' ⟨rfl,hb⟩;have hk:=EX.call hk hb;(first|replace HL1:=Lib.hid (HL1.out.below hb)|skip);(first|replace HL2:=Lib.hid (HL2.out.below hb)|skip);(first|replace HL3:=Lib.hid (HL3.out.below hb)|skip);(first|replace HL4:=Lib.hid (HL4.out.below hb)|skip);clear hb))
 have F:=cpost_fin hk HL3.out HL4.out HG3.out HG4.out
 clear hk KB KZ KC
 go_wp2_with fail
 exact bodyPost_ret (ret_cells2 Tryz.results182 _ _ (w.heap.size+1+1) (w.heap.size+1+1+1) _ _ _ rfl rfl F.out.1 F.out.2.1 Tryz.underlying66 rfl infoW infoW) rfl F.out.2.2
theorem clo_div (V1 V2:Value) (r1 r2:Rat) (w:World) (h1:FracR 0 w V1 r1) (h2:FracR 0 w V2 r2) (l1:FL r1 900) (l2:FL r2 900) (h0:0<r2.num) :
  Calls Tryz.prog 210 #[V1,V2] w (CPost w (r1.num*(r2.den:Int)) ((r1.den:Int)*r2.num)):=by
 obtain⟨a1,i1,c1,b1,j1,d1,rfl,hA1,hB1, -, -⟩:=h1
 obtain⟨a2,i2,c2,b2,j2,d2,rfl,hA2,hB2, -, -⟩:=h2
 have e1:=hA1.len
 have e2:=hB1.len
 have e3:=hA2.len
 have e4:=hB2.len
 have x1:=l1.n
 have x2:=l1.d
 have x3:=l2.n
 have x4:=l2.d
 have CR1:=Lib.hid (fun w' (hb:Below w.heap.size w w')=>cross_any r1 r2 a1 b1 a2 b2 i1 c1 j1 d1 i2 c2 j2 d2 (decide (r2.num<0)) w' (hA1.below hb) (hB2.below hb) (by omega) (by omega))
 have M2:=Lib.hid (fun w' (hb:Below w.heap.size w w')=>mul_walk _ _ (r1.den:Int) r2.num w' (wide0N (hB1.below hb)) (wide0 (hA2.below hb)) (by rw[Int.natAbs_natCast];omega))
 have ip:0<i2:=by rw[← e3];exact(canon_lenpos _).2 (by omega)
 have ZE:=Lib.hid (fun w'=>zero_walk (decide (r2.num<0)) a2 i2 c2 w' ip)
 clear ip
 have F0:=(((Fr.start w).alloc (frV (decide (r1.num<0)) a1 i1 c1 false b1 j1 d1) 68).alloc (frV (decide (r2.num<0)) a2 i2 c2 false b2 j2 d2) 68).alloc [.bool false, .slice none 0 0] 66 |>.alloc [.bool false, .slice none 0 0] 66
 simp only[World.size_alloc] at F0
 have hk:EX w (frV (decide (r1.num<0)) a1 i1 c1 false b1 j1 d1) (frV (decide (r2.num<0)) a2 i2 c2 false b2 j2 d2) _:=⟨_,_,_,_,F0⟩
 generalize decide (r1.num<0)=n1 at *
 generalize decide (r2.num<0)=n2 at *
 generalize r1.num*(r2.den:Int)=N at *
 generalize (r1.den:Int)*r2.num=D at *
 clear hA1 hB1 hA2 hB2 e1 e2 e3 e4 x1 x2 x3 x4 l1 l2 F0
 replace hk:=Lib.hid hk
 go_enter Tryz.func210,Tryz.ntmps210
 go_wp2_with fail
 refine(ZE.out _).mono ?_
 rintro e w' ⟨rfl,hb⟩
 replace hk:=Lib.hid (hk.out.call hb)
 clear hb ZE
 go_wp2_with fail
 have KB:=fun w' (h:EXS w n1 a1 i1 c1 b1 j1 d1 n2 a2 i2 c2 b2 j2 d2 w')=>h.ex.below
 have KZ:=fun w' (h:EXS w n1 a1 i1 c1 b1 j1 d1 n2 a2 i2 c2 b2 j2 d2 w')=>h.ex.size
 have KC:=fun w' w2 (h:EXS w n1 a1 i1 c1 b1 j1 d1 n2 a2 i2 c2 b2 j2 d2 w') (hb:Below w'.heap.size w' w2)=>h.ex.call hb
 replace hk:=hk.out
 go_region_held3 (fun w'=>w'.cell? ⟨w.heap.size,0,none⟩=some (.bool n1)∧w'.cell? ⟨w.heap.size,1,none⟩=some (.slice a1 i1 c1)∧w'.cell? ⟨w.heap.size,2,none⟩=some (.bool false)∧w'.cell? ⟨w.heap.size,3,none⟩=some (.slice b1 j1 d1) ∧
 w'.cell? ⟨w.heap.size+1,0,none⟩=some (.bool n2)∧w'.cell? ⟨w.heap.size+1,1,none⟩=some (.slice a2 i2 c2)∧w'.cell? ⟨w.heap.size+1,2,none⟩=some (.bool false)∧w'.cell? ⟨w.heap.size+1,3,none⟩=some (.slice b2 j2 d2) ∧
 w'.cell? ⟨w.heap.size+1+1,0,none⟩=some (cellOf w' ⟨w.heap.size+1+1,0,none⟩)∧w'.cell? ⟨w.heap.size+1+1,1,none⟩=some (cellOf w' ⟨w.heap.size+1+1,1,none⟩) ∧
 w'.cell? ⟨w.heap.size+1+1+1,0,none⟩=some (cellOf w' ⟨w.heap.size+1+1+1,0,none⟩)∧w'.cell? ⟨w.heap.size+1+1+1,1,none⟩=some (cellOf w' ⟨w.heap.size+1+1+1,1,none⟩) ∧
 w'.frozen? ⟨w.heap.size+1+1,0,none⟩=false∧w'.frozen? ⟨w.heap.size+1+1,1,none⟩=false∧w'.frozen? ⟨w.heap.size+1+1+1,0,none⟩=false∧w'.frozen? ⟨w.heap.size+1+1+1,1,none⟩=false ∧
 EX w (frV n1 a1 i1 c1 false b1 j1 d1) (frV n2 a2 i2 c2 false b2 j2 d2) w') (first|with_reducible exact EX.s (EX.drew hk)|with_reducible exact EX.s hk|with_reducible exact EX.s (EX.st5 (EX.st4 hk _ _) _ _)|with_reducible exact EX.s (EX.st4 hk _ _)|with_reducible assumption) (first|(go_at_call 147;(with_reducible refine(CR1.out _ (KB _ (by assumption))).mono ?_);rintro e w' ⟨V1,rfl,⟨e1,f1,g1,rfl,hL,hg⟩,hb⟩;have HG1:=Lib.hid (fun b off e=>Nat.le_trans (KZ _ (by assumption)) (hg b off e));have hk:=KC _ _ (by assumption) hb;have HL1:=Lib.hid hL;clear hb hL hg)|(go_at_call 86;(with_reducible refine(M2.out _ (KB _ (by assumption))).mono ?_);rintro e w' ⟨V2,rfl,⟨e2,f2,g2,rfl,hL,hg⟩,hb⟩;have HG2:=Lib.hid (fun b off e=>Nat.le_trans (KZ _ (by assumption)) (hg b off e));have hk:=KC _ _ (by assumption) hb;have HL2:=Lib.hid hL;replace HL1:=Lib.hid (HL1.out.below hb);clear hb hL hg)|(go_at_call 128;refine(must_walk _ _ _ _ _).mono ?_;rintro e w' ⟨rfl,hb⟩;have hk:=EX.call hk hb;(first|replace HL1:=Lib.hid (HL1.out.below hb)|skip);(first|replace HL2:=Lib.hid (HL2.out.below hb)|skip);(first|replace HL3:=Lib.hid (HL3.out.below hb)|skip);(first|replace HL4:=Lib.hid (HL4.out.below hb)|skip);clear hb))
 have F:=cpost_fin hk HL1.out HL2.out HG1.out HG2.out
 clear hk KB KZ KC
 go_wp2_with fail
 exact bodyPost_ret (ret_cells2 Tryz.results210 _ _ (w.heap.size+1+1) (w.heap.size+1+1+1) _ _ _ rfl rfl F.out.1 F.out.2.1 Tryz.underlying66 rfl infoW infoW) rfl F.out.2.2
end Wd
end Go.Proofs.YtdnogmanbdgadaaGreatDoor
