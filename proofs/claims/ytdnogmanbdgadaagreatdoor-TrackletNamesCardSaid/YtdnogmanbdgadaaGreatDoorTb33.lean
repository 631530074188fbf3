/-
  Lemmas and walks, texts joined: QElA.
-/
import Derived.ScopeJumps
import Derived.Test.YtdnogmanbdgadaaGreatDoorTb32
set_option linter.unusedSimpArgs false
set_option linter.unusedVariables false
set_option maxRecDepth 100000
set_option maxHeartbeats 40000000
namespace Go.Proofs.YtdnogmanbdgadaaGreatDoor
namespace Wd
open Go.RowKit Lw Tw

theorem scope_pass {P:Program} {a:Act} {w:World} {Q:Exit→Act→World→Prop} {c r:Code} (l:Nat) (JJ:Nat→Act→World→Prop) (N:Nat) (μ:Act→World→Nat) (hf:findLabel c l=some (Code.skip.seq r))
  (hN:∀ p a w,JJ p a w→p≤N∧μ a w=N-p)
  (first:∀ Q',(∀ a w,JJ 0 a w→r.wp P Q' a w)→c.wp P Q' a w)
  (pass:∀ p a w,JJ p a w→r.wp P (Exit.jump l (JJ (p+1)) Q) a w):(Code.scope c).wp P Q a w:=by
 have key:∀ (J':Act→World→Prop) p,(∀ a w,JJ (p+1) a w→J' a w) → ∀ a w,JJ p a w→r.wp P (Exit.jump l J' Q) a w:=fun J' p hJ a w h=>wp_mono (pass p a w h) (fun e a' w' hq=>by
  cases e <;> first|exact hq|exact⟨hq.1,hJ _ _ hq.2⟩)
 refine wp_scope_jumps l (fun a w=>∃ p,JJ p a w) μ hf (first _ (key _ 0 (fun a w h=>⟨1,h⟩))) ?_
 rintro a w ⟨p,h⟩
 refine wp_seq (wp_skip ?_)
 refine key _ p (fun a' w' h'=>⟨⟨p+1,h'⟩,?_⟩) a w h
 have h1:=hN _ _ _ h
 have h2:=hN _ _ _ h'
 omega
structure Ex (r:Nat) (w w1:World):Prop where
 size:w1.heap.size=w.heap.size
 block:∀ b,b≠r→w1.heap[b]? = w.heap[b]?
 os:w1.os=w.os
 tape:w1.tape=w.tape
 output:w1.output=w.output
theorem Ex.refl (r:Nat) (w:World):Ex r w w:=⟨rfl,fun _ _=>rfl,rfl,rfl,rfl⟩
theorem Ex.store {r:Nat} {w w1:World} (h:Ex r w w1) (o:Nat) (vs:List Value):Ex r w (w1.setCells r o vs):=by
 induction vs generalizing o w1 with
 | nil=>exact h
 | cons v vs ih=>exact ih (w1:=w1.setCell ⟨r,o,none⟩ v) ⟨by simpa using h.size,fun b hb=>(heap_other hb).trans (h.block b hb),h.os,h.tape,h.output⟩ (o+1)
theorem setCell_both {a b:World} {g:Nat} (h:a.heap[g]? = b.heap[g]?) (o:Nat) (v:Value):(a.setCell ⟨g,o,none⟩ v).heap[g]? = (b.setCell ⟨g,o,none⟩ v).heap[g]?:=by
 simp only[World.setCell,Array.getElem?_modify,h]
theorem setCells_both {a b:World} {g:Nat} (h:a.heap[g]? = b.heap[g]?) (o:Nat) (vs:List Value):(a.setCells g o vs).heap[g]? = (b.setCells g o vs).heap[g]?:=by
 induction vs generalizing o a b with
 | nil=>exact h
 | cons v vs ih=>exact ih (a:=a.setCell ⟨g,o,none⟩ v) (b:=b.setCell ⟨g,o,none⟩ v) (setCell_both h o v) (o+1)
theorem Fr.low {w1 w:World} {L:List (Nat×List Value)} (h:Fr w1 L w) {r:Nat} (hr:r<w1.heap.size) (o:Nat) (vs:List Value):Fr (w1.setCells r o vs) L (w.setCells r o vs):=by
 have e1:=(Ex.refl r w1).store o vs
 have e2:=(Ex.refl r w).store o vs
 refine⟨⟨by rw[e2.os,e1.os,h.below.os],by rw[e2.tape,e1.tape,h.below.tape],by rw[e2.output,e1.output,h.below.output],by rw[e2.size,e1.size];exact h.below.size,fun k hk=>?_⟩,fun p hp=>by rw[e1.size];exact h.lo p hp,fun p hp=>by rw[e2.size];exact h.hi p hp,h.nd,fun p hp=>?_,fun p hp=>World.there_setCells (h.th p hp) r o vs⟩
 ·rw[e1.size] at hk
  by_cases q:k=r
  ·subst q
   exact setCells_both (h.below.block k hk) o vs
  ·rw[e2.block k q,e1.block k q,h.below.block k hk]
 ·have:=h.lo p hp
  exact World.rangeAt_setCells_apart (h.row p hp) r o vs (Or.inl (by omega))
theorem Ex.cell {r:Nat} {w w1 wr:World} (h:Ex r w w1) (hb:Below w1.heap.size w1 wr) {p:Addr} (hp:p.block≠r) (lt:p.block<w.heap.size):wr.cell? p=w.cell? p :=
 World.cell?_of_block ((hb.block p.block (by rw[h.size];exact lt)).trans (h.block p.block hp))
theorem Ex.blocks {r:Nat} {w w1 wr:World} (h:Ex r w w1) (hb:Below w1.heap.size w1 wr) {b:Nat} (hp:b≠r) (lt:b<w.heap.size):wr.heap[b]? = w.heap[b]? :=
 (hb.block b (by rw[h.size];exact lt)).trans (h.block b hp)
structure RowV (w:World) (r:Nat) (Bf:Nat→Nat) (zs:List Int):Prop where
 row:∃ xs:List Wc,xs.length=zs.length∧w.rangeAt r 0 (xs.flatMap wcE)∧w.there r 0 (zs.length*2) ∧ ∀ i (h:i<xs.length) (h':i<zs.length),WcR w (Bf i) xs[i] zs[i]
 lt:r<w.heap.size
theorem RowW.rowV {w:World} {r:Nat} {zs:List Int} (h:RowW w r zs):RowV w r (fun _=>r+1) zs:=⟨h.row,h.lt⟩
theorem RowV.mono {w:World} {r:Nat} {Bf Bg:Nat→Nat} {zs:List Int} (h:RowV w r Bf zs) (hB:∀ i,i<zs.length→Bg i≤Bf i):RowV w r Bg zs:=by
 obtain⟨⟨xs,h1,h2,h3,h4⟩,lt⟩:=h
 exact⟨⟨xs,h1,h2,h3,fun i hi hi'=>(h4 i hi hi').mono (hB i hi')⟩,lt⟩
theorem RowV.kept {w w':World} {r B:Nat} {Bf:Nat→Nat} {zs:List Int} (h:RowV w r Bf zs) (hB:∀ i,i<zs.length→B≤Bf i) (hs:w.heap.size≤w'.heap.size) (hr:w'.heap[r]? = w.heap[r]?) (hb:∀ b,B≤b→b<w.heap.size→w'.heap[b]? = w.heap[b]?):RowV w' r Bf zs:=by
 obtain⟨⟨xs,h1,h2,h3,h4⟩,lt⟩:=h
 refine⟨⟨xs,h1,fun j v hv=>(World.cell?_of_block (a:=⟨r,0+j,none⟩) hr).trans (h2 j v hv),fun j hj=>?_,fun i hi hi'=>(h4 i hi hi').kept hs (fun b g1 g2=>hb b (Nat.le_trans (hB i hi') g1) g2)⟩,Nat.lt_of_lt_of_le lt hs⟩
 obtain⟨q1,q2⟩:=h3 j hj
 exact⟨by rw[World.cell?_of_block (a:=⟨r,0+j,none⟩) hr];exact q1,by rw[World.frozen?_of_block (a:=⟨r,0+j,none⟩) hr];exact q2⟩
theorem RowV.below {w w':World} {r:Nat} {Bf:Nat→Nat} {zs:List Int} (h:RowV w r Bf zs) (hb:Below w.heap.size w w'):RowV w' r Bf zs:=h.kept (fun _ _=>Nat.zero_le _) hb.size (hb.block r h.lt) (fun b _ h2=>hb.block b h2)
theorem RowV.away {w:World} {r c:Nat} {Bf:Nat→Nat} {zs:List Int} (h:RowV w r Bf zs) (hc:c≠r) (hB:∀ i,i<zs.length→c<Bf i) (o:Nat) (vs:List Value):RowV (w.setCells c o vs) r Bf zs :=
 have e:=(Ex.refl c w).store o vs
 h.kept (B:=c+1) hB (Nat.le_of_eq e.size.symm) (e.block r hc.symm) (fun b h1 _=>e.block b (by omega))
theorem RowV.cell {w:World} {r:Nat} {Bf:Nat→Nat} {zs:List Int} (h:RowV w r Bf zs) {i:Nat} (hi:i<zs.length):∃ x:Wc,w.cell? ⟨r,i*2,none⟩=some (.bool x.s)∧w.cell? ⟨r,i*2+1,none⟩=some (.slice x.a x.k x.c)∧w.frozen? ⟨r,i*2,none⟩=false∧w.frozen? ⟨r,i*2+1,none⟩=false∧WcR w (Bf i) x zs[i]:=by
 obtain⟨⟨xs,h1,h2,h3,h4⟩,lt⟩:=h
 have hx:i<xs.length:=by omega
 have c0:=h2 (i*2+0) (.bool xs[i].s) (flat_get (k:=2) (fun _=>rfl) hx rfl)
 have c1:=h2 (i*2+1) (.slice xs[i].a xs[i].k xs[i].c) (flat_get (k:=2) (fun _=>rfl) hx rfl)
 have f0:=(h3 (i*2) (by omega)).2
 have f1:=(h3 (i*2+1) (by omega)).2
 rw[Nat.zero_add] at c0 c1 f0 f1
 exact⟨xs[i],c0,c1,f0,f1,h4 i hx hi⟩
theorem RowV.set {w:World} {r C:Nat} {Bf:Nat→Nat} {zs:List Int} (h:RowV w r Bf zs) {i:Nat} (hi:i<zs.length) (x:Wc) (z:Int) (hx:WcR w C x z) (hC:r<C) (hB:∀ j,j<zs.length→r<Bf j):RowV (w.setCells r (i*2) (wcE x)) r (fun j=>if j=i then C else Bf j) (zs.set i z):=by
 obtain⟨⟨xs,h1,h2,h3,h4⟩,lt⟩:=h
 have hix:i<xs.length:=by omega
 have hz:(w.setCells r (i*2) (wcE x)).heap.size=w.heap.size:=sizes _ _ _ _
 have ho:∀ b,r<b→(w.setCells r (i*2) (wcE x)).heap[b]? = w.heap[b]?:=fun b hb=>((Ex.refl r w).store _ _).block b (by omega)
 refine⟨⟨xs.set i x,by simpa using h1,fun j v hv=>?_,?_,fun j hj hj'=>?_⟩,by rw[hz];exact lt⟩
 ·rw[wflat_set xs i x hix] at hv
  rw[Nat.zero_add]
  by_cases e1:j=i*2
  ·rw[if_pos e1] at hv
   subst e1
   have:=World.cell?_setCells_in r (wcE x) (i*2) w (fun j hj=>by
    have:=(h3 (i*2+j) (by simp at hj;omega)).1
    rwa [Nat.zero_add] at this) 0 (by simp)
   rw[Nat.add_zero] at this
   rw[this]
   exact hv
  ·rw[if_neg e1] at hv
   by_cases e2:j=i*2+1
   ·rw[if_pos e2] at hv
    subst e2
    rw[World.cell?_setCells_in r (wcE x) (i*2) w (fun j hj=>by
     have:=(h3 (i*2+j) (by simp at hj;omega)).1
     rwa [Nat.zero_add] at this) 1 (by simp)]
    exact hv
   ·rw[if_neg e2] at hv
    rw[World.cell?_setCells_out r (wcE x) (i*2) w ⟨r,j,none⟩ (fun _ _=>by show j<i*2∨i*2+2≤j;omega)]
    have:=h2 j v hv
    rwa [Nat.zero_add] at this
 ·rw[List.length_set]
  exact World.there_setCells h3 r (i*2) (wcE x)
 ·have hj1:j<xs.length:=by simpa using hj
  have hj2:j<zs.length:=by simpa using hj'
  by_cases e:i=j
  ·subst e
   rw[List.getElem_set_self,List.getElem_set_self,if_pos rfl]
   exact hx.kept (by rw[hz];exact Nat.le_refl _) (fun b hb _=>ho b (by omega))
  ·rw[List.getElem_set_ne e,List.getElem_set_ne e,if_neg (fun q=>e q.symm)]
   exact(h4 j hj1 hj2).kept (by rw[hz];exact Nat.le_refl _) (fun b hb _=>ho b (by have:=hB j hj2;omega))
theorem Lim.setCellsK {w:World} {a:Option Addr} {n cap:Nat} {l:List Nat} (h:Lim w a n cap l) {c:Nat} (hne:0<n → ∀ b off,a=some ⟨b,off,none⟩→b≠c) (o:Nat) (vs:List Value):Lim (w.setCells c o vs) a n cap l :=
 ⟨h.len,h.lb,h.cp,h.sm,fun p=>by
  obtain⟨b,off,e,lt,r⟩:=h.row p
  exact⟨b,off,e,by rw[sizes];exact lt,World.rangeAt_setCells_apart r c o vs (Or.inl (hne p b off e))⟩⟩
theorem RowW.at1 {W0 w:World} {r0 r1:Nat} {zs:List Int} (h0:RowW W0 r0 zs) (hW:W0.heap.size≤r1) (hr:r1<w.heap.size) (hk:∀ b,r0≤b→b<W0.heap.size→w.heap[b]? = W0.heap[b]?) {j:Nat} (hj:j<zs.length) :
  ∃ x:Wc,x.s=decide (zs[j]<0)∧x.k=(canon zs[j].natAbs).length∧(0<x.k → ∀ b off,x.a=some ⟨b,off,none⟩→b<r1) ∧ ∀ W1 wr,Ex r1 w W1→Below W1.heap.size W1 wr→wr.cell? ⟨r0,j*2,none⟩=some (.bool x.s)∧wr.cell? ⟨r0,j*2+1,none⟩=some (.slice x.a x.k x.c)∧Lim wr x.a x.k x.c (canon zs[j].natAbs):=by
 obtain⟨x,q0,q1, -, -,hw⟩:=h0.cell hj
 have bl:∀ W1 wr,Ex r1 w W1→Below W1.heap.size W1 wr → ∀ b,r0≤b→b<W0.heap.size→wr.heap[b]? = W0.heap[b]?:=fun W1 wr hx hb b g1 g2=>(hx.blocks hb (show b≠r1 by omega) (by omega)).trans (hk b g1 g2)
 refine⟨x,hw.s,hw.n.len.symm,fun p b off e=>Nat.lt_of_lt_of_le (hw.n.lt p e) hW,fun W1 wr hx hb=>?_⟩
 have e:=bl W1 wr hx hb r0 (Nat.le_refl _) h0.lt
 exact⟨(World.cell?_of_block (a:=⟨r0,j*2,none⟩) e).trans q0,(World.cell?_of_block (a:=⟨r0,j*2+1,none⟩) e).trans q1,Lim.kept hw.n hw.f (by have:=hb.size;rw[hx.size] at this;omega) (fun b g1 g2=>bl W1 wr hx hb b (by omega) g2)⟩
def elimZ (p h:Int) (A B:List Int) (k:Nat):List Int:=(List.range B.length).map fun j=>if j<k then B.getD j 0*p-h*A.getD j 0 else B.getD j 0
theorem elimZ_len (p h:Int) (A B:List Int) (k:Nat):(elimZ p h A B k).length=B.length:=by simp[elimZ]
theorem elimZ_zero (p h:Int) (A B:List Int):elimZ p h A B 0=B:=by
 apply List.ext_getElem
 ·simp[elimZ]
 ·intro i h1 h2
  simp[elimZ,h2]
theorem elimZ_get (p h:Int) (A B:List Int) (k j:Nat) (hj:j<(elimZ p h A B k).length):(elimZ p h A B k)[j]=if j<k then B.getD j 0*p-h*A.getD j 0 else B.getD j 0:=by simp[elimZ]
theorem elimZ_set (p h:Int) (A B:List Int) (k:Nat):(elimZ p h A B k).set k (B.getD k 0*p-h*A.getD k 0)=elimZ p h A B (k+1):=by
 apply List.ext_getElem
 ·simp[elimZ]
 ·intro i h1 h2
  rw[List.getElem_set,elimZ_get,elimZ_get]
  by_cases q:k=i
  ·subst q
   rw[if_pos rfl,if_pos (by omega)]
  ·rw[if_neg q]
   by_cases q2:i<k
   ·rw[if_pos q2,if_pos (by omega)]
   ·rw[if_neg q2,if_neg (by omega)]
theorem elimZ_three (p h a0 a1 a2 b0 b1 b2:Int):elimZ p h [a0,a1,a2] [b0,b1,b2] 3 = [b0*p-h*a0,b1*p-h*a1,b2*p-h*a2]:=rfl
def elimB (r C k:Nat):Nat→Nat:=fun j=>if j<k then C else r+1
theorem elimB_set (r C k:Nat):(fun j=>if j=k then C else elimB r C k j)=elimB r C (k+1):=by
 funext j
 unfold elimB
 by_cases q:j=k
 ·subst q
  rw[if_pos rfl,if_pos (by omega)]
 ·rw[if_neg q]
  by_cases q2:j<k
  ·rw[if_pos q2,if_pos (by omega)]
  ·rw[if_neg q2,if_neg (by omega)]
end Wd
end Go.Proofs.YtdnogmanbdgadaaGreatDoor
