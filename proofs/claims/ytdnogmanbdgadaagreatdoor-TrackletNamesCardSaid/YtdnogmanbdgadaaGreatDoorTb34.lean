/-
  Lemmas and walks, texts joined: QElim.
-/
import Derived.Test.YtdnogmanbdgadaaGreatDoorTb33
set_option linter.unusedSimpArgs false
set_option linter.unusedVariables false
set_option maxRecDepth 100000
set_option maxHeartbeats 40000000
namespace Go.Proofs.YtdnogmanbdgadaaGreatDoor
namespace Wd
open Go.RowKit Lw Tw

section
variable {P : Program}
theorem ret_c3 {fn:Func} {p q u:Tmp} {ty ty2 ty3:TypeId} (h:fn.results = #[.cell p ty, .cell q ty2, .cell u ty3]) (tmps:Array Value) (w:World) (b c e:Nat) (x y:Value) (cs:List Value) (d:TypeDesc)
  (hp:tmps.getD p undef = .pointer (some ⟨b,0,none⟩)) (hq:tmps.getD q undef = .pointer (some ⟨c,0,none⟩)) (hu:tmps.getD u undef = .pointer (some ⟨e,0,none⟩)) (hx:(loadVar ty ⟨b,0,none⟩).run P w = .ok x w) (hy:(loadVar ty2 ⟨c,0,none⟩).run P w = .ok y w)
  (hr:w.rangeAt e 0 cs) (hn:P.underlying ty3=some d) (hd:d.isRow=true) (hi:(P.info? ty3).map (·.size)=some cs.length) :
  (results fn tmps).run P w = .ok (.tuple #[x,y, .agg cs.toArray]) w:=by
 have hp':tmps[p]?.getD undef = .pointer (some ⟨b,0,none⟩):=by simpa using hp
 have hq':tmps[q]?.getD undef = .pointer (some ⟨c,0,none⟩):=by simpa using hq
 have hu':tmps[u]?.getD undef = .pointer (some ⟨e,0,none⟩):=by simpa using hu
 simp[results,h,hp',hq',hu',asAddr,hx,hy,run_loadVar_mid w e 0 ty3 cs d hr hn hd hi,Result.andThen]
end
def ElimPost (r1:Nat) (zs:List Int) (w:World) (e:Ending) (w':World):Prop:=∃ b a k kc W1,e = .returned (.tuple #[.int .i64 2, .bool false, .agg (wdV b a k kc).toArray])∧Ex r1 w W1∧Below W1.heap.size W1 w'∧RowV w' r1 (fun _=>w.heap.size) zs
abbrev eL (s gr c:Nat) (A2:Option Addr) (n2 c2 p:Nat) (b:Bool) (a:Option Addr) (k kc:Nat):List (Nat×List Value):=[(s+1+1+1,wdV b a k kc),(s+1+1,[.bool false]),(s+1,[.int .i64 p]),(s,[.slice (some ⟨gr,0,none⟩) 2 c, .slice A2 n2 c2])]
def EJ (w:World) (gr c:Nat) (A2:Option Addr) (n2 c2 r1 p:Nat) (Z0 Z1:List Int) (w':World):Prop:=∃ W1 b a k kc,Ex r1 w W1∧Fr W1 (eL w.heap.size gr c A2 n2 c2 p b a k kc) w' ∧
 ((p=0∧RowV w' r1 (fun _=>r1+1) Z0∧b=false∧One w' a k kc ∧ ∀ b off,a=some ⟨b,off,none⟩→w.heap.size+4≤b)∨(0<p∧RowV w' r1 (fun _=>w.heap.size+4) Z1))
def EJJ (w:World) (gr c:Nat) (A2:Option Addr) (n2 c2 r1:Nat) (Z0 Z1:List Int) (p:Nat) (a':Act) (w':World):Prop:=p≤2∧EJ w gr c A2 n2 c2 r1 p Z0 Z1 w' ∧ ∃ f:Nat→Value,
 a' = { tmps:=#[.agg #[.slice (some ⟨gr,0,none⟩) 2 c, .slice A2 n2 c2], .int .i64 2, .pointer (some ⟨w.heap.size,0,none⟩),undef, .pointer (some ⟨w.heap.size+1,0,none⟩), .pointer (some ⟨w.heap.size+1+1,0,none⟩), .pointer (some ⟨w.heap.size+1+1+1,0,none⟩), .int .i64 p,f 8,f 9,f 10,f 11,f 12,f 13,f 14,f 15,f 16,f 17,f 18,f 19,f 20,f 21,f 22,f 23,f 24,f 25,f 26,f 27,f 28,f 29,f 30,f 31,f 32,f 33,f 34,f 35,f 36,f 37,f 38,f 39,f 40,f 41,f 42,f 43,f 44,f 45,f 46,f 47,f 48,f 49,f 50,f 51,f 52,f 53,f 54,f 55,f 56,f 57,f 58,f 59,f 60,f 61,f 62,f 63,f 64,f 65,f 66,f 67,f 68,f 69,f 70,f 71,f 72,f 73,f 74,f 75,f 76,f 77,f 78,f 79,f 80,f 81,f 82,f 83,f 84,f 85,f 86,f 87,f 88,f 89,f 90,f 91,f 92,f 93,f 94,f 95,f 96,f 97,f 98,f 99,f 100,f 101,f 102,f 103,f 104,f 105,f 106,f 107,f 108,f 109,f 110,f 111,f 112,f 113,f 114,f 115,f 116,f 117],defers:=[] }
def LP (w:World) (r1 p:Nat) (L:List (Nat×List Value)) (sA sB:Nat) (b:Bool) (a xa:Option Addr) (k kc xk xc:Nat) (zp:Int) (Z0 Z1:List Int) (i:Nat) (wr:World):Prop:=∃ W1,Ex r1 w W1∧Fr W1 ((sB,wdV false xa xk xc)::(sA,[.int .i64 p])::L) wr∧Lim wr xa xk xc (canon zp.natAbs) ∧
 (p=0→b=false∧One wr a k kc ∧ ∀ b off,a=some ⟨b,off,none⟩→w.heap.size+4≤b) ∧
 ((p=0∧i≤1∧RowV wr r1 (fun _=>r1+1) Z0)∨((0<p∨i=2)∧RowV wr r1 (fun _=>w.heap.size+4) Z1))
def LK (w:World) (r1:Nat) (L:List (Nat×List Value)) (a xa ha:Option Addr) (k kc xk xc hk hc:Nat) (p h:Int) (A B:List Int) (j:Nat) (wr:World):Prop:=∃ W1,Ex r1 w W1∧Fr W1 L wr∧Lim wr xa xk xc (canon p.natAbs)∧One wr a k kc∧Lim wr ha hk hc (canon h.natAbs)∧RowV wr r1 (elimB r1 (w.heap.size+4) j) (elimZ p h A B j)
theorem elimB_lt (r C k j:Nat) (h:j<k):elimB r C k j=C:=if_pos h
theorem EJJ.of {w:World} {gr c:Nat} {A2:Option Addr} {n2 c2 r1:Nat} {Z0 Z1:List Int} {p:Nat} {a':Act} {w':World} (hp:p≤2) (h:EJ w gr c A2 n2 c2 r1 p Z0 Z1 w') (ha:a' = { tmps:=#[.agg #[.slice (some ⟨gr,0,none⟩) 2 c, .slice A2 n2 c2], .int .i64 2, .pointer (some ⟨w.heap.size,0,none⟩),undef, .pointer (some ⟨w.heap.size+1,0,none⟩), .pointer (some ⟨w.heap.size+1+1,0,none⟩), .pointer (some ⟨w.heap.size+1+1+1,0,none⟩), .int .i64 p,a'.tmps.getD 8 undef,a'.tmps.getD 9 undef,a'.tmps.getD 10 undef,a'.tmps.getD 11 undef,a'.tmps.getD 12 undef,a'.tmps.getD 13 undef,a'.tmps.getD 14 undef,a'.tmps.getD 15 undef,a'.tmps.getD 16 undef,a'.tmps.getD 17 undef,a'.tmps.getD 18 undef,a'.tmps.getD 19 undef,a'.tmps.getD 20 undef,a'.tmps.getD 21 undef,a'.tmps.getD 22 undef,a'.tmps.getD 23 undef,a'.tmps.getD 24 undef,a'.tmps.getD 25 undef,a'.tmps.getD 26 undef,a'.tmps.getD 27 undef,a'.tmps.getD 28 undef,a'.tmps.getD 29 undef,a'.tmps.getD 30 undef,a'.tmps.getD 31 undef,a'.tmps.getD 32 undef,a'.tmps.getD 33 undef,a'.tmps.getD 34 undef,a'.tmps.getD 35 undef,a'.tmps.getD 36 undef,a'.tmps.getD 37 undef,a'.tmps.getD 38 undef,a'.tmps.getD 39 undef,a'.tmps.getD 40 undef,a'.tmps.getD 41 undef,a'.tmps.getD 42 undef,a'.tmps.getD 43 undef,a'.tmps.getD 44 undef,a'.tmps.getD 45 undef,a'.tmps.getD 46 undef,a'.tmps.getD 47 undef,a'.tmps.getD 48 undef,a'.tmps.getD 49 undef,a'.tmps.getD 50 undef,a'.tmps.getD 51 undef,a'.tmps.getD 52 undef,a'.tmps.getD 53 undef,a'.tmps.getD 54 undef,a'.tmps.getD 55 undef,a'.tmps.getD 56 undef,a'.tmps.getD 57 undef,a'.tmps.getD 58 undef,a'.tmps.getD 59 undef,a'.tmps.getD 60 undef,a'.tmps.getD 61 undef,a'.tmps.getD 62 undef,a'.tmps.getD 63 undef,a'.tmps.getD 64 undef,a'.tmps.getD 65 undef,a'.tmps.getD 66 undef,a'.tmps.getD 67 undef,a'.tmps.getD 68 undef,a'.tmps.getD 69 undef,a'.tmps.getD 70 undef,a'.tmps.getD 71 undef,a'.tmps.getD 72 undef,a'.tmps.getD 73 undef,a'.tmps.getD 74 undef,a'.tmps.getD 75 undef,a'.tmps.getD 76 undef,a'.tmps.getD 77 undef,a'.tmps.getD 78 undef,a'.tmps.getD 79 undef,a'.tmps.getD 80 undef,a'.tmps.getD 81 undef,a'.tmps.getD 82 undef,a'.tmps.getD 83 undef,a'.tmps.getD 84 undef,a'.tmps.getD 85 undef,a'.tmps.getD 86 undef,a'.tmps.getD 87 undef,a'.tmps.getD 88 undef,a'.tmps.getD 89 undef,a'.tmps.getD 90 undef,a'.tmps.getD 91 undef,a'.tmps.getD 92 undef,a'.tmps.getD 93 undef,a'.tmps.getD 94 undef,a'.tmps.getD 95 undef,a'.tmps.getD 96 undef,a'.tmps.getD 97 undef,a'.tmps.getD 98 undef,a'.tmps.getD 99 undef,a'.tmps.getD 100 undef,a'.tmps.getD 101 undef,a'.tmps.getD 102 undef,a'.tmps.getD 103 undef,a'.tmps.getD 104 undef,a'.tmps.getD 105 undef,a'.tmps.getD 106 undef,a'.tmps.getD 107 undef,a'.tmps.getD 108 undef,a'.tmps.getD 109 undef,a'.tmps.getD 110 undef,a'.tmps.getD 111 undef,a'.tmps.getD 112 undef,a'.tmps.getD 113 undef,a'.tmps.getD 114 undef,a'.tmps.getD 115 undef,a'.tmps.getD 116 undef,a'.tmps.getD 117 undef],defers:=[] }):EJJ w gr c A2 n2 c2 r1 Z0 Z1 p a' w':=⟨hp,h,fun i=>a'.tmps.getD i undef,ha⟩
theorem eliminate_any (gr c:Nat) (A2:Option Addr) (n2 c2 r0 r1:Nat) (n s1 y0 t1 s2 y1:Int) (W0 w:World) (hg:w.rangeAt gr 0 [.slice (some ⟨r0,0,none⟩) 3 3, .slice (some ⟨r1,0,none⟩) 3 3]) (hgl:gr<w.heap.size) (hgr:gr≠r1)
  (h0:RowW W0 r0 [n,s1,y0]) (hW:W0.heap.size≤r1) (hk:∀ b,r0≤b→b<W0.heap.size→w.heap[b]? = W0.heap[b]?) (h1:RowW w r1 [t1,s2,y1]) (hn:0<n) (hD:0<s2*n-t1*s1)
  (hl:∀ z ∈ [n,s1,y0,t1,s2,y1],(canon z.natAbs).length≤900) :
  Calls Tryz.prog 178 #[.agg #[.slice (some ⟨gr,0,none⟩) 2 c, .slice A2 n2 c2], .int .i64 2] w (ElimPost r1 [t1*n-t1*n,s2*n-t1*s1,y1*n-t1*y0] w):=by
 have HG:=Lib.hid (fun W1 wr (hx:Ex r1 w W1) (hb:Below W1.heap.size W1 wr)=>(show wr.cell? ⟨gr,0,none⟩=some (.slice (some ⟨r0,0,none⟩) 3 3)∧wr.cell? ⟨gr,1,none⟩=some (.slice (some ⟨r1,0,none⟩) 3 3) from
  ⟨(hx.cell hb (p:=⟨gr,0,none⟩) hgr hgl).trans (hg 0 _ rfl),(hx.cell hb (p:=⟨gr,1,none⟩) hgr hgl).trans (hg 1 _ rfl)⟩))
 have H0:=Lib.hid (fun j (hj:j < [n,s1,y0].length)=>h0.at1 hW h1.lt hk hj)
 have H1:=Lib.hid h1.rowV
 have R1:=Lib.hid h1.lt
 have HL:=Lib.hid hl
 have F0:=(((Fr.start w).alloc [.slice (some ⟨gr,0,none⟩) 2 c, .slice A2 n2 c2] 224).alloc [.int .i64 0] 3).alloc [.bool false] 4 |>.alloc (wdV false none 0 0) 66
 simp only[World.size_alloc] at F0
 replace F0:=Lib.hid F0
 obtain⟨Z1,hZ1⟩:∃ Z,Z = [t1*n-t1*n,s2*n-t1*s1,y1*n-t1*y0]:=⟨_,rfl⟩
 rw[← hZ1]
 replace hZ1:=Lib.hid hZ1
 replace hD:=Lib.hid hD
 replace hn:=Lib.hid hn
 clear hg hgl hgr h0 hW hk h1 hl
 go_enter Tryz.func178,Tryz.ntmps178
 go_wp2_with fail
 refine scope_pass 0 (EJJ w gr c A2 n2 c2 r1 [t1,s2,y1] Z1) 2 (fun a' _=>2-(intOf (a'.tmps.getD 7 undef)).toNat) rfl ?_ ?_ ?_
 ·rintro p a' w' ⟨h2, -,f,rfl⟩
  exact⟨h2,by simp[intOf]⟩
 ·intro Q' hQ
  go_wp2_with fail
  refine(from_one _).mono ?_
  rintro e w1 ⟨a,k,kc,rfl,ho,hf,hb⟩
  simp only[World.size_alloc] at hf
  have F1:=F0.out.call hb
  obtain⟨c0,c1⟩:=F1.c2 0 rfl
  obtain⟨z0,z1⟩:=F1.f2 0 rfl
  have hs4:=F0.out.least 0 rfl
  have FP:=F1.put 0 rfl (wdV false a k kc) rfl
  have st:=Lib.hid (show EJ w gr c A2 n2 c2 r1 0 [t1,s2,y1] Z1 _ from⟨w,false,a,k,kc,Ex.refl _ _,FP,Or.inl ⟨rfl,H1.out.below FP.below,rfl,Lim.setCells ho (fun b off e=>by have:=hf b off e;omega) 0 _,fun b off e=>by have:=hf b off e;omega⟩⟩)
  clear F1 hb ho hf FP hs4
  go_wp2_with fail
  go_step3
  rename_i hK
  refine hK _ _ (hQ _ _ ?_)
  refine EJJ.of (by omega) st.out ?_
  rfl
 ·rintro p a' w' ⟨h2,hE,f,rfl⟩
  obtain⟨W1,b,a,k,kc,hx,hF,hc⟩:=hE
  by_cases hp:p<2
  ·have p1:(p:Int)<2:=by omega
   have p2:¬ (p:Int)=2:=by omega
   have p2b:((p:Int)==2)=false:=by simpa using p2
   have p3:(p:Int)<3:=by omega
   have gl:=hF.below.size
   obtain⟨rp,xa,xk,xc,zp,hk0,hzl,hz0,hxn,hPV⟩:∃ rp xa xk xc,∃ zp:Int,0<xk∧(canon zp.natAbs).length≤2000∧(p=0→zp=n)∧(∀ b off,xa=some ⟨b,off,none⟩→b≠r1) ∧
     ∀ w'',Below w'.heap.size w' w''→w''.cell? ⟨gr,p,none⟩=some (.slice (some ⟨rp,0,none⟩) 3 3)∧w''.cell? ⟨rp,p*2,none⟩=some (.bool false)∧w''.cell? ⟨rp,p*2+1,none⟩=some (.slice xa xk xc)∧Lim w'' xa xk xc (canon zp.natAbs):=by
    have hnn:=hn.out
    have hDD:=hD.out
    rcases(show p=0∨p=1 by omega) with rfl|rfl
    ·obtain⟨x,hs,hk,hlt,hat⟩:=H0.out 0 (by simp)
     rw[List.getElem_cons_zero] at hs hk hat
     have k0:0<x.k:=by rw[hk,canon_lenpos];omega
     refine⟨r0,x.a,x.k,x.c,n,k0,Nat.le_trans (HL.out n (by simp)) (by decide),fun _=>rfl,fun b off e=>Nat.ne_of_lt (hlt k0 b off e),fun w'' hb=>?_⟩
     have hb':=below_then hF.below hb
     obtain⟨e0,e1,e2⟩:=hat W1 w'' hx hb'
     rw[show x.s=false by rw[hs];simp;omega] at e0
     exact⟨(HG.out W1 w'' hx hb').1,e0,e1,e2⟩
    ·rcases hc with⟨q, -⟩|⟨-,hR⟩
     ·omega
     ·obtain⟨x,q0,q1, -, -,hw⟩:=hR.cell (i:=1) (by rw[hZ1.out];simp)
      have ez:∀ h,Z1[1]'h=s2*n-t1*s1:=fun h=>by simp[hZ1.out]
      rw[ez] at hw
      have k0:0<x.k:=by rw[← hw.n.len,canon_lenpos];omega
      have ll:(canon (s2*n-t1*s1).natAbs).length≤2000:=by
       have a1:=len_mulZ s2 n
       have a2:=len_mulZ t1 s1
       have b1:=HL.out s2 (by simp)
       have b2:=HL.out n (by simp)
       have b3:=HL.out t1 (by simp)
       have b4:=HL.out s1 (by simp)
       have:=len_addZ (X:=s2*n) (Y:=-(t1*s1)) (L:=1800) (by omega) (by rw[Int.natAbs_neg];omega)
       rw[← Int.sub_eq_add_neg] at this
       omega
      refine⟨r1,x.a,x.k,x.c,_,k0,ll,fun q=>by omega,fun b off e=>by have:=hw.f b off e;have:=R1.out;omega,fun w'' hb=>?_⟩
      have hs:x.s=false:=by rw[hw.s];simp;omega
      rw[hs] at q0
      exact⟨(HG.out W1 w'' hx (below_then hF.below hb)).2,(hb.cell (p:=⟨r1,1*2,none⟩) hR.lt).trans q0,(hb.cell (p:=⟨r1,1*2+1,none⟩) hR.lt).trans q1,hw.n.below hb⟩
   have PV:=Lib.hid hPV
   clear hPV
   have HX:=Lib.hid hx
   have j0:=hF.cell 3 0 rfl rfl
   have j2:=hF.cell 2 0 rfl rfl
   have FA:=hF.alloc [.int .i64 p] 3
   have ba:=(Below.refl _ w').alloc (Nat.le_refl _) (.cells [Value.int .i64 p].toArray 3)
   obtain⟨sA,hsA⟩:∃ x,x=w'.heap.size:=⟨_,rfl⟩
   obtain⟨wA,hwA⟩:∃ x,x=w'.alloc (.cells #[.int .i64 p] 3):=⟨_,rfl⟩
   replace FA:Fr W1 ((sA,[.int .i64 p])::eL w.heap.size gr c A2 n2 c2 p b a k kc) wA:=by rw[hwA,hsA];exact FA
   replace ba:Below w'.heap.size w' wA:=by rw[hwA];exact ba
   have d0:=FA.cell 4 0 rfl rfl
   have d2:=FA.cell 3 0 rfl rfl
   have d4:=FA.cell 0 0 rfl rfl
   obtain⟨e0,e1,e2, -⟩:=PV.out _ ba
   replace FA:=Lib.hid FA
   have BA:=Lib.hid ba
   have HC:=Lib.hid hc
   replace hwA:=Lib.hid hwA
   replace hsA:=Lib.hid hsA
   clear hF hc hx ba gl F0 H1
   go_wp2_with fail
   rw[← hwA.out,← hsA.out]
   clear hwA hsA
   go_loopw [30] (fun _ wr=>wr=wA) (fun _ _=>0)
   case atStart=>exact rfl
   case round =>
    subst hrel
    go_wp2_with fail
    refine(lzero_any false xa xk xc _ hk0).mono ?_
    rintro e wB ⟨rfl,hb⟩
    have FB:=FA.out.call hb
    have BB:=below_then BA.out hb
    obtain⟨g0,g1,g2, -⟩:=PV.out _ BB
    have d0':=FB.cell 4 0 rfl rfl
    have d2':=FB.cell 3 0 rfl rfl
    have d4':=FB.cell 0 0 rfl rfl
    have FC:=FB.alloc (wdV false xa xk xc) 66
    have bc:=(Below.refl _ wB).alloc (Nat.le_refl _) (.cells (wdV false xa xk xc).toArray 66)
    have d0c:=FC.cell 5 0 rfl rfl
    have PC:=PV.out _ (below_then BB bc)
    obtain⟨sB,hsB⟩:∃ x,x=wB.heap.size:=⟨_,rfl⟩
    rw[← hsB] at FC
    have ST:=Lib.hid (show LP w r1 p (eL w.heap.size gr c A2 n2 c2 p b a k kc) sA sB b a xa k kc xk xc zp [t1,s2,y1] Z1 0 _ from
     ⟨W1,HX.out,FC,PC.2.2.2,fun q=>by
      rcases HC.out with⟨-, -,h1,h2,h3⟩|⟨q2, -⟩
      ·exact⟨h1,One.below h2 (below_then BB bc),h3⟩
      ·omega,by
      rcases HC.out with⟨q,h, -⟩|⟨q2,h⟩
      ·exact Or.inl ⟨q,by omega,h.below (below_then BB bc)⟩
      ·exact Or.inr ⟨Or.inl q2,h.below (below_then BB bc)⟩⟩)
    replace hsB:=Lib.hid hsB
    clear e0 e1 e2 d0 d2 d4 j0 j2 FC bc FB BB PC hb
    go_wp2_with fail
    clear d0' d2' d4' d0c g0 g1 g2
    rw[← hsB.out]
    go_loopw [11,12,13,14,72] (fun _ _ _ _ iv wr=>∃ i:Nat,i≤2∧iv = .int .i64 i∧LP w r1 p (eL w.heap.size gr c A2 n2 c2 p b a k kc) sA sB b a xa k kc xk xc zp [t1,s2,y1] Z1 i wr) (fun _ _ _ _ iv _=>2-(intOf iv).toNat)
    case atStart=>exact⟨0,by omega,rfl,ST.out⟩
    case round =>
     clear ST
     obtain⟨i,hi2,rfl,hLP⟩:=hrel
     obtain⟨W2,hx,hF,hpl,hlast,hrow⟩:=hLP
     by_cases hi:i<2
     ·have i1:(i:Int)<2:=by omega
      have hcg:=HG.out W2 wr hx hF.below
      have v4:=hF.cell 4 0 rfl rfl
      by_cases hip:i≤p
      ·have ip:(i:Int)≤(p:Int):=by omega
       obtain⟨ri,cr⟩:∃ ri,wr.cell? ⟨gr,i,none⟩=some (.slice (some ⟨ri,0,none⟩) 3 3):=by
        rcases(show i=0∨i=1 by omega) with rfl|rfl
        ·exact⟨r0,hcg.1⟩
        ·exact⟨r1,hcg.2⟩
       have st:=Lib.hid (show LP w r1 p (eL w.heap.size gr c A2 n2 c2 p b a k kc) sA sB b a xa k kc xk xc zp [t1,s2,y1] Z1 (i+1) wr from⟨W2,hx,hF,hpl,hlast,by
        rcases hrow with⟨q1,q2,h⟩|⟨q,h⟩
        ·exact Or.inl ⟨q1,by omega,h⟩
        ·exact Or.inr ⟨Or.inl (by omega),h⟩⟩)
       clear hx hF hpl hlast hrow hcg HG H0
       go_wp2_with fail
       go_roundw
       case rel=>exact⟨i+1,by omega,by simp,st.out⟩
       case measure=>simp[intOf];omega
      ·obtain rfl:i=1:=by omega
       have hp0:p=0:=by omega
       have np:¬ (1:Int)≤(p:Int):=by omega
       obtain⟨hb0,hone,hlf⟩:=hlast hp0
       have hR:RowV wr r1 (fun _=>r1+1) [t1,s2,y1]:=by
        rcases hrow with⟨-, -,h⟩|⟨q, -⟩
        ·exact h
        ·omega
       have ezn:=hz0 hp0
       subst ezn
       subst hb0
       obtain⟨x,x0,x1, -, -,hxw⟩:=hR.cell (i:=0) (by simp)
       rw[List.getElem_cons_zero] at hxw
       have r0c:wr.cell? ⟨r1,p*2,none⟩=some (.bool x.s):=by rw[hp0];exact x0
       have r1c:wr.cell? ⟨r1,p*2+1,none⟩=some (.slice x.a x.k x.c):=by rw[hp0];exact x1
       have hcg1:=hcg.2
       have ba:=(Below.refl _ wr).alloc (Nat.le_refl _) (.cells (wdV x.s x.a x.k x.c).toArray 66)
       have FD:=hF.alloc (wdV x.s x.a x.k x.c) 66
       obtain⟨sD,hsD⟩:∃ x,x=wr.heap.size:=⟨_,rfl⟩
       rw[← hsD] at FD
       have ST:=Lib.hid (show LK w r1 ((sD,wdV x.s x.a x.k x.c)::(sB,wdV false xa xk xc)::(sA,[.int .i64 p])::eL w.heap.size gr c A2 n2 c2 p false a k kc) a xa x.a k kc xk xc x.k x.c zp t1 [zp,s1,y0] [t1,s2,y1] 0 _ from
        ⟨W2,hx,FD,hpl.below ba,hone.below ba,hxw.n.below ba,by rw[elimZ_zero];exact(hR.below ba).mono (fun _ _=>by simp[elimB])⟩)
       have XF:=Lib.hid hxw.f
       have XS:=Lib.hid hxw.s
       replace hsD:=Lib.hid hsD
       have HLF:=Lib.hid hlf
       have HXN:=Lib.hid hxn
       rw[show ((1:Nat):Int)=1 from rfl]
       replace hp0:=Lib.hid hp0
       clear hF hpl hlast hrow hcg hone hlf hR x0 x1 hxw ba FD hx p2 p2b hxn hz0
       go_wp2_with fail
       clear r0c r1c hcg1 v4
       rw[← hsD.out]
       go_loopw [14,86] (fun _ kv wr=>∃ j:Nat,j≤3∧kv = .int .i64 j∧LK w r1 ((sD,wdV x.s x.a x.k x.c)::(sB,wdV false xa xk xc)::(sA,[.int .i64 p])::eL w.heap.size gr c A2 n2 c2 p false a k kc) a xa x.a k kc xk xc x.k x.c zp t1 [zp,s1,y0] [t1,s2,y1] j wr) (fun _ kv _=>3-(intOf kv).toNat)
       case atStart=>exact⟨0,by omega,rfl,ST.out⟩
       case round =>
        obtain⟨wx,hwx⟩:∃ x,x=wr:=⟨_,rfl⟩
        subst hwx
        clear ST
        obtain⟨j,hj3,rfl,W3,hx,hF,hpl,hone,hhd,hrow⟩:=hrel
        by_cases hj:j<3
        ·
         have j1:(j:Int)<3:=by omega
         have hjl:j<(elimZ zp t1 [zp,s1,y0] [t1,s2,y1] j).length:=by rw[elimZ_len];exact hj
         obtain⟨y,y0c,y1c, -, -,hy⟩:=hrow.cell hjl
         obtain⟨v,hs0, -, -,hat⟩:=H0.out j hj
         obtain⟨zr,hzr⟩:∃ z,z = [t1,s2,y1].getD j 0:=⟨_,rfl⟩
         obtain⟨za,hza⟩:∃ z,z = [zp,s1,y0].getD j 0:=⟨_,rfl⟩
         have ez:(elimZ zp t1 [zp,s1,y0] [t1,s2,y1] j)[j]'hjl=zr:=by rw[elimZ_get,if_neg (Nat.lt_irrefl j),hzr]
         have ea:[zp,s1,y0][j]'hj=za:=by rw[hza,List.getD_eq_getElem?_getD,List.getElem?_eq_getElem hj];rfl
         rw[ez] at hy
         rw[ea] at hs0 hat
         rw[hy.s] at y0c
         have bz:(canon zr.natAbs).length≤900∧(canon za.natAbs).length≤900:=by
          rw[hzr,hza]
          rcases(show j=0∨j=1∨j=2 by omega) with rfl|rfl|rfl
          ·exact⟨HL.out t1 (by simp),HL.out zp (by simp)⟩
          ·exact⟨HL.out s2 (by simp),HL.out s1 (by simp)⟩
          ·exact⟨HL.out y1 (by simp),HL.out y0 (by simp)⟩
         have b1:=HL.out zp (by simp)
         have b2:=HL.out t1 (by simp)
         have m1:=len_mulZ zr zp
         have m2:=len_mulZ t1 za
         have m3:=len_addZ (X:=zr*zp) (Y:=-(t1*za)) (L:=1800) (by omega) (by rw[Int.natAbs_neg];omega)
         rw[← Int.sub_eq_add_neg] at m3
         have CF:=Lib.hid (fun w' (hb:Below wx.heap.size wx w')=>(show (w'.cell? ⟨r1,j*2,none⟩=some (.bool (decide (zr<0)))∧w'.cell? ⟨r1,j*2+1,none⟩=some (.slice y.a y.k y.c))∧(w'.cell? ⟨sB,0,none⟩=some (.bool false)∧w'.cell? ⟨sB,1,none⟩=some (.slice xa xk xc))∧(w'.cell? ⟨sD,0,none⟩=some (.bool x.s)∧w'.cell? ⟨sD,1,none⟩=some (.slice x.a x.k x.c))∧w'.cell? ⟨w.heap.size,0,none⟩=some (.slice (some ⟨gr,0,none⟩) 2 c)∧w'.cell? ⟨w.heap.size+1,0,none⟩=some (.int .i64 p)∧w'.cell? ⟨gr,p,none⟩=some (.slice (some ⟨r0,0,none⟩) 3 3)∧(w'.cell? ⟨r0,j*2,none⟩=some (.bool (decide (za<0)))∧w'.cell? ⟨r0,j*2+1,none⟩=some (.slice v.a v.k v.c))∧(w'.cell? ⟨w.heap.size+1+1+1,0,none⟩=some (.bool false)∧w'.cell? ⟨w.heap.size+1+1+1,1,none⟩=some (.slice a k kc)) from
          ⟨⟨(hb.cell (p:=⟨r1,j*2,none⟩) hrow.lt).trans y0c,(hb.cell (p:=⟨r1,j*2+1,none⟩) hrow.lt).trans y1c⟩,⟨(hF.call hb).cell 1 0 rfl rfl,(hF.call hb).cell 1 1 rfl rfl⟩,⟨(hF.call hb).cell 0 0 rfl rfl,(hF.call hb).cell 0 1 rfl rfl⟩,(hF.call hb).cell 6 0 rfl rfl,(hF.call hb).cell 5 0 rfl rfl,
           by rw[hp0.out];exact(HG.out W3 w' hx (below_then hF.below hb)).1,by rw[← hs0];exact⟨(hat W3 w' hx (below_then hF.below hb)).1,(hat W3 w' hx (below_then hF.below hb)).2.1⟩,⟨(hF.call hb).cell 3 0 rfl rfl,(hF.call hb).cell 3 1 rfl rfl⟩⟩))
         have WY:=Lib.hid (fun w' (hb:Below wx.heap.size wx w')=>(show Wide 0 w' (.agg #[.bool (decide (zr<0)), .slice y.a y.k y.c]) zr from wide0 (hy.n.below hb)))
         have WP:=Lib.hid (fun w' (hb:Below wx.heap.size wx w')=>(show Wide 0 w' (.agg #[.bool false, .slice xa xk xc]) zp from⟨xa,xk,xc,by rw[show decide (zp<0)=false by have:=hn.out;simp;omega],hpl.below hb,fun _ _ _=>Nat.zero_le _⟩))
         have WH:=Lib.hid (fun w' (hb:Below wx.heap.size wx w')=>(show Wide 0 w' (.agg #[.bool x.s, .slice x.a x.k x.c]) t1 from⟨x.a,x.k,x.c,by rw[XS.out],hhd.below hb,fun _ _ _=>Nat.zero_le _⟩))
         have WA:=Lib.hid (fun w' (hb:Below wx.heap.size wx w')=>(show Wide 0 w' (.agg #[.bool (decide (za<0)), .slice v.a v.k v.c]) za from wide0 (hat W3 w' hx (below_then hF.below hb)).2.2))
         have WO:=Lib.hid (fun w' (hb:Below wx.heap.size wx w')=>one_wide (hone.below hb))
         have ROW:=Lib.hid (fun w' (hb:Below wx.heap.size wx w')=>hrow.below hb)
         have KF:=Lib.hid (⟨hx,hF,hpl,hone,hhd⟩:Ex r1 w W3∧Fr W3 ((sD,wdV x.s x.a x.k x.c)::(sB,wdV false xa xk xc)::(sA,[.int .i64 p])::eL w.heap.size gr c A2 n2 c2 p false a k kc) wx∧Lim wx xa xk xc (canon zp.natAbs)∧One wx a k kc∧Lim wx x.a x.k x.c (canon t1.natAbs))
         have LB1:=Lib.hid (show (canon zr.natAbs).length+(canon zp.natAbs).length≤4096 by omega)
         have LB2:=Lib.hid (show (canon t1.natAbs).length+(canon za.natAbs).length≤4096 by omega)
         have LB3:=Lib.hid (show (canon (zr*zp).natAbs).length+(canon (t1*za).natAbs).length+1≤4096 by omega)
         have LB4:=Lib.hid (show (canon (zr*zp-t1*za).natAbs).length≤4000 by omega)
         have LO:=Lib.hid (show w.heap.size+4≤wx.heap.size by have:=(hF.least 3 rfl).2;omega)
         replace hzr:=Lib.hid hzr
         replace hza:=Lib.hid hza
         clear hx hF hpl hone hhd hrow y0c y1c hy hs0 hat ez ea bz b1 b2 m1 m2 m3 HG H0
         go_wp2_with fail
         have BL:=Lib.hid (Below.refl wx.heap.size wx).drew
         refine TillSt.start (fun w'=>(w'.cell? ⟨r1,j*2,none⟩=some (.bool (decide (zr<0)))∧w'.cell? ⟨r1,j*2+1,none⟩=some (.slice y.a y.k y.c))∧(w'.cell? ⟨sB,0,none⟩=some (.bool false)∧w'.cell? ⟨sB,1,none⟩=some (.slice xa xk xc))∧(w'.cell? ⟨sD,0,none⟩=some (.bool x.s)∧w'.cell? ⟨sD,1,none⟩=some (.slice x.a x.k x.c))∧w'.cell? ⟨w.heap.size,0,none⟩=some (.slice (some ⟨gr,0,none⟩) 2 c)∧w'.cell? ⟨w.heap.size+1,0,none⟩=some (.int .i64 p)∧w'.cell? ⟨gr,p,none⟩=some (.slice (some ⟨r0,0,none⟩) 3 3)∧(w'.cell? ⟨r0,j*2,none⟩=some (.bool (decide (za<0)))∧w'.cell? ⟨r0,j*2+1,none⟩=some (.slice v.a v.k v.c))∧(w'.cell? ⟨w.heap.size+1+1+1,0,none⟩=some (.bool false)∧w'.cell? ⟨w.heap.size+1+1+1,1,none⟩=some (.slice a k kc))) 22 (by kernel_rfl) (CF.out _ BL.out) (fun hHeld=>?_)
         generalize World.drew wx=wd at *
         refine TillSt.tP 0 (fun _=>hHeld) ?_
         refine TillSt.tP 1 (fun _=>hHeld) ?_
         refine TillSt.tP 2 (fun _=>hHeld) ?_
         refine TillSt.tP 3 (fun _=>hHeld) ?_
         refine TillSt.tP 4 (fun _=>hHeld) ?_
         refine TillSt.tL 5 hHeld (hy:=Or.inl ⟨by rfl,by intro w hSw;obtain⟨⟨q1,q2⟩,⟨q3,q4⟩,⟨q5,q6⟩,q7,q8,q9,⟨q10,q11⟩,⟨q12,q13⟩⟩:=hSw;go_simp;try with_reducible rfl⟩) (h:=?_)
         refine TillSt.tL 6 hHeld (hy:=Or.inl ⟨by rfl,by intro w hSw;obtain⟨⟨q1,q2⟩,⟨q3,q4⟩,⟨q5,q6⟩,q7,q8,q9,⟨q10,q11⟩,⟨q12,q13⟩⟩:=hSw;go_simp;try with_reducible rfl⟩) (h:=?_)
         refine TillSt.tL 8 hHeld (hy:=Or.inl ⟨by rfl,by intro w hSw;obtain⟨⟨q1,q2⟩,⟨q3,q4⟩,⟨q5,q6⟩,q7,q8,q9,⟨q10,q11⟩,⟨q12,q13⟩⟩:=hSw;go_simp;try with_reducible rfl⟩) (h:=?_)
         refine TillSt.tP 9 (fun _=>hHeld) ?_
         refine TillSt.tL 10 hHeld (hy:=Or.inl ⟨by rfl,by intro w hSw;obtain⟨⟨q1,q2⟩,⟨q3,q4⟩,⟨q5,q6⟩,q7,q8,q9,⟨q10,q11⟩,⟨q12,q13⟩⟩:=hSw;go_simp;try with_reducible rfl⟩) (h:=?_)
         refine TillSt.tL 11 hHeld (hy:=Or.inl ⟨by rfl,by intro w hSw;obtain⟨⟨q1,q2⟩,⟨q3,q4⟩,⟨q5,q6⟩,q7,q8,q9,⟨q10,q11⟩,⟨q12,q13⟩⟩:=hSw;go_simp;try with_reducible rfl⟩) (h:=?_)
         refine TillSt.tP 12 (fun _=>hHeld) ?_
         refine TillSt.tL 13 hHeld (hy:=Or.inl ⟨by rfl,by intro w hSw;obtain⟨⟨q1,q2⟩,⟨q3,q4⟩,⟨q5,q6⟩,q7,q8,q9,⟨q10,q11⟩,⟨q12,q13⟩⟩:=hSw;go_simp;try with_reducible rfl⟩) (h:=?_)
         refine TillSt.tP 14 (fun _=>hHeld) ?_
         refine TillSt.tP 15 (fun _=>hHeld) ?_
         refine TillSt.tL 16 hHeld (hy:=Or.inl ⟨by rfl,by intro w hSw;obtain⟨⟨q1,q2⟩,⟨q3,q4⟩,⟨q5,q6⟩,q7,q8,q9,⟨q10,q11⟩,⟨q12,q13⟩⟩:=hSw;go_simp;try with_reducible rfl⟩) (h:=?_)
         refine TillSt.tL 19 hHeld (hy:=Or.inl ⟨by rfl,by intro w hSw;obtain⟨⟨q1,q2⟩,⟨q3,q4⟩,⟨q5,q6⟩,q7,q8,q9,⟨q10,q11⟩,⟨q12,q13⟩⟩:=hSw;go_simp;try with_reducible rfl⟩) (h:=?_)
         refine TillSt.nx [7] ?_
         refine NextSt.cons rfl (fun K' hK=>?_) NextSt.nil
         clear hHeld
         go_simp
         refine(lmul_any _ _ zr zp _ (WY.out _ BL.out) (WP.out _ BL.out) LB1.out).mono ?_
         rintro e w7 ⟨V7,rfl,hV,hb⟩
         have BK:=BL.out.size
         replace BL:=Lib.hid (below_then BL.out hb)
         have H7:=Lib.hid (hV.mono (Nat.zero_le _))
         have G7:=Lib.hid hV
         clear hV hb BK
         refine hK.out _ _ (CF.out _ BL.out) (fun hHeld=>?_)
         clear hK
         try simp only[Act.put,Lw.s1,Lw.s2,Lw.s3]
         refine TillSt.nx [17] ?_
         refine NextSt.cons rfl (fun K' hK=>?_) NextSt.nil
         clear hHeld
         go_simp
         refine(lmul_any _ _ t1 za _ (WH.out _ BL.out) (WA.out _ BL.out) LB2.out).mono ?_
         rintro e w17 ⟨V17,rfl,hV,hb⟩
         have BK:=BL.out.size
         replace BL:=Lib.hid (below_then BL.out hb)
         replace H7:=Lib.hid (H7.out.below hb)
         have H17:=Lib.hid (hV.mono (Nat.zero_le _))
         have G17:=Lib.hid hV
         clear hV hb BK
         refine hK.out _ _ (CF.out _ BL.out) (fun hHeld=>?_)
         clear hK
         try simp only[Act.put,Lw.s1,Lw.s2,Lw.s3]
         refine TillSt.nx [18] ?_
         refine NextSt.cons rfl (fun K' hK=>?_) NextSt.nil
         clear hHeld
         go_simp
         refine(lsub_any V7 V17 (zr*zp) (t1*za) _ H7.out H17.out LB3.out).mono ?_
         rintro e w18 ⟨V18,rfl,hV,hb⟩
         have BK:=BL.out.size
         replace BL:=Lib.hid (below_then BL.out hb)
         have H18:=Lib.hid (hV.mono (Nat.zero_le _))
         have G18:=Lib.hid hV
         clear hV hb BK
         refine hK.out _ _ (CF.out _ BL.out) (fun hHeld=>?_)
         clear hK
         try simp only[Act.put,Lw.s1,Lw.s2,Lw.s3]
         refine TillSt.nx [20] ?_
         refine NextSt.cons rfl (fun K' hK=>?_) NextSt.nil
         clear hHeld
         go_simp
         refine(ldiv_any V18 _ (zr*zp-t1*za) 1 _ H18.out (WO.out _ BL.out) (by decide) LB4.out (by rw[canon_one];decide)).mono ?_
         rintro e w20 ⟨V20,rfl,hV,hb⟩
         have BK:=BL.out.size
         replace BL:=Lib.hid (below_then BL.out hb)
         rw[show ((1:Nat):Int)=1 from rfl,Int.ediv_one] at hV
         obtain⟨a5,k5,c5,rfl,l5,f5⟩:=hV
         have lo:=LO.out
         have H20:=Lib.hid (show WcR w20 (w.heap.size+4) ⟨decide (zr*zp-t1*za<0),a5,k5,c5⟩ (zr*zp-t1*za) from⟨rfl,l5,fun b off e=>by have:=f5 b off e;omega⟩)
         clear hb BK l5 f5 lo H7 H17 H18 G7 G17 G18
         refine hK.out _ _ (CF.out _ BL.out) (fun hHeld=>?_)
         clear hK
         try simp only[Act.put,Lw.s1,Lw.s2,Lw.s3]
         refine TillSt.tP 21 (fun _=>hHeld) ?_
         refine TillSt.nx [22] ?_
         refine NextSt.last rfl (by kernel_rfl) (fun K' hK=>?_) NextSt.nil
         obtain⟨y',s0,s1,s2',s3, -⟩:=(ROW.out _ BL.out).cell hjl
         clear hHeld
         go_simp
         clear s0 s1 s2' s3
         refine hK.out _ _ ?_
         clear hK
         try simp only[Act.put,Lw.s1,Lw.s2,Lw.s3]
         refine TillSt.done (by kernel_rfl) ?_ _
         obtain⟨hx,hF,hpl,hone,hhd⟩:=KF.out
         have R1':=R1.out
         have RS:=(ROW.out _ BL.out).set hjl ⟨decide (zr*zp-t1*za<0),a5,k5,c5⟩ (zr*zp-t1*za) H20.out (by omega) (fun i _=>by unfold elimB;split <;> omega)
         rw[elimB_set] at RS
         have eS:(elimZ zp t1 [zp,s1,y0] [t1,s2,y1] j).set j (zr*zp-t1*za)=elimZ zp t1 [zp,s1,y0] [t1,s2,y1] (j+1):=by rw[hzr.out,hza.out,elimZ_set]
         rw[eS] at RS
         have st:=Lib.hid (show LK w r1 ((sD,wdV x.s x.a x.k x.c)::(sB,wdV false xa xk xc)::(sA,[.int .i64 p])::eL w.heap.size gr c A2 n2 c2 p false a k kc) a xa x.a k kc xk xc x.k x.c zp t1 [zp,s1,y0] [t1,s2,y1] (j+1) _ from
          ⟨W3.setCells r1 (j*2) (wcE ⟨decide (zr*zp-t1*za<0),a5,k5,c5⟩),hx.store _ _,Fr.low (hF.call BL.out) (by rw[hx.size];exact R1') _ _,(hpl.below BL.out).setCells (fun b off e=>HXN.out b off e) _ _,Lim.setCells (hone.below BL.out) (fun b off e=>by have:=HLF.out b off e;omega) _ _,(hhd.below BL.out).setCells (fun b off e=>by have:=XF.out b off e;omega) _ _,RS⟩)
         clear hx hF hpl hone hhd RS eS KF ROW BL CF WY WP WH WA WO H20 R1'
         go_wp2_with fail
         go_roundw
         case rel=>exact⟨j+1,by omega,by simp,st.out⟩
         case measure=>simp[intOf];omega
        ·obtain rfl:j=3:=by omega
         rw[show ((3:Nat):Int)=3 from rfl]
         have RZ:RowV wx r1 (fun _=>w.heap.size+4) Z1:=by
          rw[hZ1.out,← elimZ_three]
          exact hrow.mono (fun i hi=>by rw[elimB_lt _ _ _ _ (by rw[elimZ_len] at hi;simpa using hi)];exact Nat.le_refl _)
         have st:=Lib.hid (show LP w r1 p (eL w.heap.size gr c A2 n2 c2 p false a k kc) sA sB false a xa k kc xk xc zp [t1,s2,y1] Z1 2 wx from⟨W3,hx,hF.tail,hpl,fun _=>⟨rfl,hone,HLF.out⟩,Or.inr ⟨Or.inr rfl,RZ⟩⟩)
         clear hx hF hpl hone hhd hrow RZ HG H0
         go_wp2_with fail
         go_roundw
         case rel=>exact⟨2,by omega,by simp,st.out⟩
         case measure=>simp[intOf]
     ·obtain rfl:i=2:=by omega
      have hR:RowV wr r1 (fun _=>w.heap.size+4) Z1:=by
       rcases hrow with⟨-,q, -⟩|⟨-,h⟩
       ·omega
       ·exact h
      rw[show ((2:Nat):Int)=2 from rfl]
      obtain⟨v0,v1⟩:=hF.c2 0 rfl
      obtain⟨z0,z1⟩:=hF.c2 2 rfl
      obtain⟨z2,z3⟩:=hF.f2 2 rfl
      have F2:=hF.put 2 rfl (wdV false xa xk xc) rfl
      have q0:World.cell? ((wr.setCell ⟨w.heap.size+1+1+1,0,none⟩ (.bool false)).setCell ⟨w.heap.size+1+1+1,1,none⟩ (.slice xa xk xc)) ⟨w.heap.size+1,0,none⟩=some (.int .i64 (p:Int)):=F2.cell 4 0 rfl rfl
      have q1:World.frozen? ((wr.setCell ⟨w.heap.size+1+1+1,0,none⟩ (.bool false)).setCell ⟨w.heap.size+1+1+1,1,none⟩ (.slice xa xk xc)) ⟨w.heap.size+1,0,none⟩=false:=F2.fz 4 0 rfl rfl
      have F3:Fr W2 (_::_::eL w.heap.size gr c A2 n2 c2 (p+1) false xa xk xc) _:=F2.put 4 rfl [.int .i64 ((p+1:Nat):Int)] rfl
      have RR:=R1.out
      have R2:=(hR.away (c:=w.heap.size+1+1+1) (by omega) (fun _ _=>by omega) 0 (wdV false xa xk xc)).away (c:=w.heap.size+1) (by omega) (fun _ _=>by omega) 0 [.int .i64 ((p+1:Nat):Int)]
      have st:=Lib.hid (show EJ w gr c A2 n2 c2 r1 (p+1) [t1,s2,y1] Z1 _ from⟨W2,false,xa,xk,xc,hx,F3.tail.tail,Or.inr ⟨by omega,R2⟩⟩)
      clear F2 F3 hR R2 RR hx hF hpl hlast hrow HG H0
      go_wp2_with fail
      go_step3
      refine⟨rfl,?_⟩
      exact EJJ.of (by omega) st.out rfl
  ·obtain rfl:p=2:=by omega
   have hR:RowV w' r1 (fun _=>w.heap.size+4) Z1:=by
    rcases hc with⟨q, -⟩|⟨-,h⟩
    ·omega
    ·exact h
   clear hc
   rw[show ((2:Nat):Int)=2 from rfl] at *
   have HR:=Lib.hid hR
   have HX:=Lib.hid hx
   have c2:=hF.cell 2 0 rfl rfl
   have FF:=Lib.hid hF.drew
   clear hR hx hF HG H0 H1 F0
   go_wp2_with fail
   clear c2
   refine TillSt.start (fun w'=>w'.cell? ⟨w.heap.size+1,0,none⟩=some (.int .i64 2)∧w'.cell? ⟨w.heap.size+1+1,0,none⟩=some (.bool false)∧w'.cell? ⟨w.heap.size+1+1+1,0,none⟩=some (.bool b)∧w'.cell? ⟨w.heap.size+1+1+1,1,none⟩=some (.slice a k kc)) 5 (by kernel_rfl) (⟨FF.out.cell 2 0 rfl rfl,FF.out.cell 1 0 rfl rfl,FF.out.cell 0 0 rfl rfl,FF.out.cell 0 1 rfl rfl⟩) (fun hHeld=>?_)
   replace HR:=Lib.hid (HR.out.below (Below.refl _ _).drew)
   generalize World.drew w'=wd at *
   refine TillSt.tL 0 hHeld (hy:=Or.inl ⟨by rfl,by intro w hSw;obtain⟨q0,q1,q2,q3⟩:=hSw;go_simp;try with_reducible rfl⟩) (h:=?_)
   refine TillSt.tL 1 hHeld (hy:=Or.inl ⟨by rfl,by intro w hSw;obtain⟨q0,q1,q2,q3⟩:=hSw;go_simp;try with_reducible rfl⟩) (h:=?_)
   refine TillSt.tL 2 hHeld (hy:=Or.inl ⟨by rfl,by intro w hSw;obtain⟨q0,q1,q2,q3⟩:=hSw;go_simp;try with_reducible rfl⟩) (h:=?_)
   refine TillSt.nx [3] ?_
   refine NextSt.cons rfl (fun K' hK=>?_) NextSt.nil
   clear hHeld
   have s0:=FF.out.cell 2 0 rfl rfl
   have s1:=FF.out.fz 2 0 rfl rfl
   go_simp
   clear s0 s1
   have RW:=HR.out.away (c:=w.heap.size+1) (by have:=R1.out;omega) (fun i _=>by omega) 0 [.int .i64 2]
   have F9:=FF.out.put 2 rfl [.int .i64 2] rfl
   replace FF:Hid (Fr W1 _ (World.setCell wd ⟨w.heap.size+1,0,none⟩ (.int .i64 2))):=Lib.hid F9
   replace HR:Hid (RowV (World.setCell wd ⟨w.heap.size+1,0,none⟩ (.int .i64 2)) r1 (fun _=>w.heap.size+4) Z1):=Lib.hid RW
   clear F9 RW
   generalize World.setCell wd ⟨w.heap.size+1,0,none⟩ (.int .i64 2)=wdn at *
   refine hK.out _ _ (⟨FF.out.cell 2 0 rfl rfl,FF.out.cell 1 0 rfl rfl,FF.out.cell 0 0 rfl rfl,FF.out.cell 0 1 rfl rfl⟩) (fun hHeld=>?_)
   clear hK
   try simp only[Act.put,Lw.s1,Lw.s2,Lw.s3]
   refine TillSt.nx [4] ?_
   refine NextSt.cons rfl (fun K' hK=>?_) NextSt.nil
   clear hHeld
   have s0:=FF.out.cell 1 0 rfl rfl
   have s1:=FF.out.fz 1 0 rfl rfl
   go_simp
   clear s0 s1
   have RW:=HR.out.away (c:=w.heap.size+1+1) (by have:=R1.out;omega) (fun i _=>by omega) 0 [.bool false]
   have F9:=FF.out.put 1 rfl [.bool false] rfl
   replace FF:Hid (Fr W1 _ (World.setCell wdn ⟨w.heap.size+1+1,0,none⟩ (.bool false))):=Lib.hid F9
   replace HR:Hid (RowV (World.setCell wdn ⟨w.heap.size+1+1,0,none⟩ (.bool false)) r1 (fun _=>w.heap.size+4) Z1):=Lib.hid RW
   clear F9 RW
   generalize World.setCell wdn ⟨w.heap.size+1+1,0,none⟩ (.bool false)=wdnn at *
   refine hK.out _ _ (⟨FF.out.cell 2 0 rfl rfl,FF.out.cell 1 0 rfl rfl,FF.out.cell 0 0 rfl rfl,FF.out.cell 0 1 rfl rfl⟩) (fun hHeld=>?_)
   clear hK
   try simp only[Act.put,Lw.s1,Lw.s2,Lw.s3]
   refine TillSt.nx [5] ?_
   refine NextSt.last rfl (by kernel_rfl) (fun K' hK=>?_) NextSt.nil
   obtain⟨s0,s1⟩:=FF.out.c2 0 rfl
   obtain⟨s2,s3⟩:=FF.out.f2 0 rfl
   clear hHeld
   go_simp
   clear s0 s1 s2 s3
   refine hK.out _ _ ?_
   clear hK
   try simp only[Act.put,Lw.s1,Lw.s2,Lw.s3]
   refine TillSt.done (by kernel_rfl) ?_ _
   have RW:=HR.out.away (c:=w.heap.size+1+1+1) (by have:=R1.out;omega) (fun i _=>by omega) 0 (wdV b a k kc)
   have F9:=FF.out.put 0 rfl (wdV b a k kc) rfl
   obtain⟨WN,hWN⟩:∃ WN,WN=World.setCells wdnn (w.heap.size+1+1+1) 0 (wdV b a k kc):=⟨_,rfl⟩
   rw[← hWN] at RW F9
   have e3:(wdnn.setCell ⟨w.heap.size+1+1+1,0,none⟩ (.bool b)).setCell ⟨w.heap.size+1+1+1,1,none⟩ (.slice a k kc)=WN:=hWN.symm
   rw[e3]
   clear e3 hWN
   have HP:=Lib.hid (show ElimPost r1 Z1 w (.returned (.tuple #[.int .i64 2, .bool false, .agg (wdV b a k kc).toArray])) _ from⟨b,a,k,kc,W1,rfl,HX.out,F9.below,RW.mono (fun i _=>by omega)⟩)
   have d0:=F9.cell 2 0 rfl rfl
   have d1:=F9.cell 1 0 rfl rfl
   have d2:=Lib.hid (F9.get 0 rfl)
   clear RW F9 FF HR HX
   go_wp2_with fail
   simp only[Exit.jump]
   exact bodyPost_ret (ret_c3 Tryz.results178 _ _ (w.heap.size+1) (w.heap.size+1+1) (w.heap.size+1+1+1) (.int .i64 2) (.bool false) (wdV b a k kc) _ rfl rfl rfl (by simp[go_sem,d0]) (by simp[go_sem,d1]) d2.out Tryz.underlying66 rfl infoW) rfl HP.out
end Wd
end Go.Proofs.YtdnogmanbdgadaaGreatDoor
