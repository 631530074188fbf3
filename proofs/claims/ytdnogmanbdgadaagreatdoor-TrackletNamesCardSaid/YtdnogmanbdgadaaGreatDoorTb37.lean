/-
  Lemmas and walks, texts joined: QLs2, QMo, QLsA.
-/
import Derived.Test.YtdnogmanbdgadaaGreatDoorTb24
import Derived.Test.YtdnogmanbdgadaaGreatDoorTb35
set_option linter.unusedSimpArgs false
set_option linter.unusedVariables false
set_option maxRecDepth 100000
set_option maxHeartbeats 40000000
namespace Go.Proofs.YtdnogmanbdgadaaGreatDoor
namespace Ls

theorem Q_ge {t:Nat→Int} {x:Int} {n i:Nat} (hi:i<n):(t i-x)*(t i-x)≤Q t x n:=by
 induction n with
 | zero=>omega
 | succ n ih =>
  rw[Q]
  rcases Nat.lt_or_eq_of_le (Nat.le_of_lt_succ hi) with g|g
  ·have:=ih g;have:=sq_nonneg (t n-x);omega
  ·subst g
   have:=Q_nonneg t x i
   omega
theorem D_ge {t:Nat→Int} {n i j:Nat} (hi:i<n) (hj:j<n):(t i-t j)*(t i-t j)≤D t n:=by
 induction n with
 | zero=>omega
 | succ n ih =>
  rw[D_succ]
  have h2:=D_nonneg t n
  have h1:=Q_nonneg t (t n) n
  by_cases e1:i=n
  ·by_cases e2:j=n
   ·subst e1;subst e2
    simp only[Int.sub_self,Int.mul_zero]
    omega
   ·subst e1
    have:=Q_ge (t:=t) (x:=t i) (n:=i) (i:=j) (by omega)
    have e:(t i-t j)*(t i-t j)=(t j-t i)*(t j-t i):=by grind
    omega
  ·by_cases e2:j=n
   ·subst e2
    have:=Q_ge (t:=t) (x:=t j) (n:=j) (i:=i) (by omega)
    omega
   ·have:=ih (by omega) (by omega);omega
theorem S_bound {a b:Nat→Int} {n:Nat} {A B:Nat} (ha:∀ i,i<n→(a i).natAbs≤A) (hb:∀ i,i<n→(b i).natAbs≤B):(S a b n).natAbs≤n*(A*B):=by
 induction n with
 | zero=>simp[S]
 | succ n ih =>
  have h1:=ih (fun i h=>ha i (by omega)) (fun i h=>hb i (by omega))
  have h2:(a n*b n).natAbs≤A*B:=by
   rw[Int.natAbs_mul]
   exact Nat.mul_le_mul (ha n (by omega)) (hb n (by omega))
  have h3:=Int.natAbs_add_le (S a b n) (1*(a n*b n))
  rw[Int.one_mul] at h3
  show (S a b n+1*(a n*b n)).natAbs≤_
  rw[Int.one_mul,Nat.add_mul,Nat.one_mul]
  omega
theorem S_lin (t v:Nat→Int) (a b:Int) (n:Nat):S (fun i=>a*t i-b) v n=a*S t v n-b*S one v n:=by
 induction n with
 | zero=>simp[S]
 | succ n ih=>simp only[S,one] at *;rw[ih];grind
theorem S_diff (t:Nat→Int) (x:Int) (n:Nat):S one (fun i=>x-t i) n=x*n-S one t n:=by
 induction n with
 | zero=>simp[S]
 | succ n ih=>simp only[S,one] at *;rw[ih];push_cast;grind
theorem E_eq (t v:Nat→Int) (n:Nat):E t v n=S (fun i=>S one (fun j=>t i-t j) n) v n:=by
 have:(fun i=>S one (fun j=>t i-t j) n)=(fun i=>(n:Int)*t i-S one t n):=by
  funext i;rw[S_diff];grind
 rw[this,S_lin,E,S_one]
 grind
theorem E_bound {t v:Nat→Int} {n:Nat} {s V:Nat} (ht:∀ i j,i<n→j<n→(t i-t j).natAbs≤s) (hv:∀ i,i<n→(v i).natAbs≤V):(E t v n).natAbs≤n*(n*s*V):=by
 rw[E_eq]
 refine S_bound (A:=n*s) (fun i hi=>?_) hv
 have:=S_bound (a:=one) (b:=fun j=>t i-t j) (n:=n) (A:=1) (B:=s) (fun _ _=>Nat.le_refl 1) (fun j hj=>ht i j hi hj)
 rwa [Nat.one_mul] at this
theorem x0_bound {t v:Nat→Int} {n:Nat} {s V i j:Nat} (hn:0<n) (hs:0<s) (ht:∀ i j,i<n→j<n→(t i-t j).natAbs≤s) (hi:i<n) (hj:j<n) (hij:(t i-t j).natAbs=s) (h1:∀ i,i<n→(t i).natAbs≤s) (hv:∀ i,i<n→(v i).natAbs≤V) :
  -(((V+n*n*V:Nat):Int):Rat)≤x0 t v n∧x0 t v n≤(((V+n*n*V:Nat):Int):Rat):=by
 have hD:(s*s:Nat)≤D t n:=by
  have:=D_ge (t:=t) hi hj
  have e:((t i-t j)*(t i-t j)).natAbs=s*s:=by rw[Int.natAbs_mul,hij]
  have:=sq_nonneg (t i-t j)
  push_cast
  push_cast at e
  omega
 have hE:=E_bound ht hv
 have hS:=S_bound (a:=one) (b:=t) (n:=n) (A:=1) (B:=s) (fun _ _=>Nat.le_refl 1) h1
 have hV:=S_bound (a:=one) (b:=v) (n:=n) (A:=1) (B:=V) (fun _ _=>Nat.le_refl 1) hv
 rw[Nat.one_mul] at hS hV
 have hss:0<s*s:=Nat.mul_pos hs hs
 have hD0:0<D t n:=by omega
 have dR:(0:Rat)<(D t n:Rat):=Rat.intCast_pos.2 hD0
 have nR:(0:Rat)<(n:Rat):=by exact_mod_cast hn
 -- S1 * E is at most n * n * n * s * s * V, which is at most n * n * n * V * D
 have hSE:(S one t n*E t v n).natAbs≤n*(n*n*V)*(s*s):=by
  rw[Int.natAbs_mul]
  refine Nat.le_trans (Nat.mul_le_mul hS hE) (Nat.le_of_eq ?_)
  grind
 have hK:(S one t n*E t v n).natAbs≤n*(n*n*V)*(D t n).toNat:=Nat.le_trans hSE (Nat.mul_le_mul_left _ (by omega))
 have e0:x0 t v n*((n:Rat)*(D t n:Rat))=((S one v n*D t n-S one t n*E t v n:Int):Rat):=by
  have d0:(D t n:Rat)≠0:=Rat.ne_of_gt dR
  have n0:(n:Rat)≠0:=Rat.ne_of_gt nR
  rw[x0,x1,S_one]
  push_cast
  grind
 have pos:(0:Rat)<(n:Rat)*(D t n:Rat):=Rat.mul_pos nR dR
 have hb:(S one v n*D t n-S one t n*E t v n).natAbs≤(V+n*n*V)*(n*(D t n).toNat):=by
  have h1:(S one v n*D t n).natAbs≤n*V*(D t n).toNat:=by
   rw[Int.natAbs_mul]
   exact Nat.mul_le_mul hV (by omega)
  have h2:(S one v n*D t n-S one t n*E t v n).natAbs≤(S one v n*D t n).natAbs+(S one t n*E t v n).natAbs:=by omega
  refine Nat.le_trans h2 (Nat.le_trans (Nat.add_le_add h1 hK) (Nat.le_of_eq ?_))
  grind
 have eD:(((D t n).toNat:Nat):Int)=D t n:=by omega
 have hb2:(S one v n*D t n-S one t n*E t v n)≤((V+n*n*V:Nat):Int)*(n*D t n) ∧ -(((V+n*n*V:Nat):Int)*(n*D t n))≤(S one v n*D t n-S one t n*E t v n):=by
  have:=Int.ofNat_le.2 hb
  push_cast [eD] at this ⊢
  omega
 constructor
 ·refine Rat.le_of_mul_le_mul_right (c:=(n:Rat)*(D t n:Rat)) ?_ pos
  rw[e0]
  have:=Rat.intCast_le_intCast.2 hb2.2
  push_cast at this ⊢
  grind
 ·refine Rat.le_of_mul_le_mul_right (c:=(n:Rat)*(D t n:Rat)) ?_ pos
  rw[e0]
  have:=Rat.intCast_le_intCast.2 hb2.1
  push_cast at this ⊢
  grind
theorem roundR_bound {r:Rat} {B:Int} (h1:-(B:Rat)≤r) (h2:r≤(B:Rat)):-B≤roundR r∧roundR r≤B:=by
 obtain⟨a,b⟩:=roundR_near r
 have k1:(roundR r:Rat)<((B+1:Int):Rat):=by push_cast;grind
 have k2:((-B-1:Int):Rat)<(roundR r:Rat):=by push_cast;grind
 have:=Rat.intCast_lt_intCast.1 k1
 have:=Rat.intCast_lt_intCast.1 k2
 omega
end Ls
namespace Mo
def tF (ts:List Int) (j:Nat):Int:=ts.getD j 0
def fitE (ts vs:List Int):Int×Int×Int :=
 let a:=Ls.roundR (Ls.x0 (tF ts) (tF vs) ts.length)
 let r:=Ls.roundR (Ls.x1 (tF ts) (tF vs) ts.length*86400000000)
 if -9223372036854775808≤a∧a<9223372036854775808 then(if -9223372036854775808≤r∧r<9223372036854775808 then(a,r,0) else(a,0,16)) else(0,0,16)
def loT (l:List Int):Nat→Int
 | 0=>0
 | 1=>l.getD 0 0
 | k+2=>min (loT l (k+1)) (l.getD (k+1) 0)
def hiT (l:List Int):Nat→Int
 | 0=>0
 | 1=>l.getD 0 0
 | k+2=>max (hiT l (k+1)) (l.getD (k+1) 0)
def lo (l:List Int):Int:=loT l l.length
def hi (l:List Int):Int:=hiT l l.length
theorem getD_get {l:List Int} {k:Nat} (h:k<l.length):l.getD k 0=l[k]:=by simp[h]
theorem loT_one {l:List Int} (h:0<l.length):loT l 1=l[0]:=by rw[loT,getD_get h]
theorem hiT_one {l:List Int} (h:0<l.length):hiT l 1=l[0]:=by rw[hiT,getD_get h]
theorem loT_all (l:List Int):loT l l.length=lo l:=rfl
theorem hiT_all (l:List Int):hiT l l.length=hi l:=rfl
theorem loT_succ {l:List Int} {k:Nat} (h:k<l.length) (hk:1≤k):loT l (k+1)=min (loT l k) l[k]:=by
 obtain⟨j,rfl⟩:∃ j,k=j+1:=⟨k-1,by omega⟩
 rw[loT,getD_get h]
theorem hiT_succ {l:List Int} {k:Nat} (h:k<l.length) (hk:1≤k):hiT l (k+1)=max (hiT l k) l[k]:=by
 obtain⟨j,rfl⟩:∃ j,k=j+1:=⟨k-1,by omega⟩
 rw[hiT,getD_get h]
theorem loT_is (l:List Int):∀ k,1≤k→k≤l.length→(∀ i (h:i<l.length),i<k→loT l k≤l[i]) ∧ ∃ i,∃ h:i<l.length,i<k∧loT l k=l[i]
 | 0,h,_=>by omega
 | 1,_,h=>⟨fun i hi h1=>by
                 obtain rfl:i=0:=by omega
                 rw[loT_one];exact Int.le_refl _,0,by omega,by omega,loT_one (by omega)⟩
 | k+2,_,h=>by
  obtain⟨h1,i,hi,hik,e⟩:=loT_is l (k+1) (by omega) (by omega)
  rw[loT_succ (k:=k+1) (by omega) (by omega)]
  refine⟨fun j hj hjk=>?_,?_⟩
  ·by_cases q:j=k+1
   ·subst q;exact Int.min_le_right _ _
   ·exact Int.le_trans (Int.min_le_left _ _) (h1 j hj (by omega))
  ·rcases Int.le_total (loT l (k+1)) (l[k+1]'(by omega)) with q|q
   ·rw[Int.min_eq_left q];exact⟨i,hi,by omega,e⟩
   ·rw[Int.min_eq_right q];exact⟨k+1,by omega,by omega,rfl⟩
theorem hiT_is (l:List Int):∀ k,1≤k→k≤l.length→(∀ i (h:i<l.length),i<k→l[i]≤hiT l k) ∧ ∃ i,∃ h:i<l.length,i<k∧hiT l k=l[i]
 | 0,h,_=>by omega
 | 1,_,h=>⟨fun i hi h1=>by
                 obtain rfl:i=0:=by omega
                 rw[hiT_one];exact Int.le_refl _,0,by omega,by omega,hiT_one (by omega)⟩
 | k+2,_,h=>by
  obtain⟨h1,i,hi,hik,e⟩:=hiT_is l (k+1) (by omega) (by omega)
  rw[hiT_succ (k:=k+1) (by omega) (by omega)]
  refine⟨fun j hj hjk=>?_,?_⟩
  ·by_cases q:j=k+1
   ·subst q;exact Int.le_max_right _ _
   ·exact Int.le_trans (h1 j hj (by omega)) (Int.le_max_left _ _)
  ·rcases Int.le_total (hiT l (k+1)) (l[k+1]'(by omega)) with q|q
   ·rw[Int.max_eq_right q];exact⟨k+1,by omega,by omega,rfl⟩
   ·rw[Int.max_eq_left q];exact⟨i,hi,by omega,e⟩
theorem lo_le {l:List Int} {i:Nat} (h:i<l.length):lo l≤l[i]:=(loT_is l l.length (by omega) (Nat.le_refl _)).1 i h h
theorem le_hi {l:List Int} {i:Nat} (h:i<l.length):l[i]≤hi l:=(hiT_is l l.length (by omega) (Nat.le_refl _)).1 i h h
theorem lo_at {l:List Int} (h:0<l.length):∃ i,∃ h:i<l.length,lo l=l[i]:=by
 obtain⟨-,i,hi, -,e⟩:=loT_is l l.length (by omega) (Nat.le_refl _)
 exact⟨i,hi,e⟩
theorem hi_at {l:List Int} (h:0<l.length):∃ i,∃ h:i<l.length,hi l=l[i]:=by
 obtain⟨-,i,hi, -,e⟩:=hiT_is l l.length (by omega) (Nat.le_refl _)
 exact⟨i,hi,e⟩
structure Mv where
 t:Int
 ra:Int
 dec:Int
 dra:Int
 ddec:Int
def inR (m:Mv):Prop:=-324000000000≤m.dec∧m.dec≤324000000000∧max m.dra m.ddec≤72000000000 ∧ -72000000000≤min m.dra m.ddec
instance (m:Mv):Decidable (inR m):=by unfold inR;infer_instance
def midT (ts:List Int):Int:=(lo ts+hi ts)/2
def moved (ts ras decs:List Int):Except Int Mv :=
 if 172800000000<hi ts-lo ts then .error 2 else
 if hi ts=lo ts then .error 22 else
 let T:=ts.map (· - midT ts)
 let a:=fitE T ras
 let d:=fitE T decs
 if a.2.2≠0 then .error 16 else
 let m:Mv:=⟨midT ts,a.1,d.1,a.2.1,d.2.1⟩
 if d.2.2≠0∨¬ inR m then .error 16 else .ok m
end Mo
namespace Wd
open Go.RowKit Lw Tw

structure LX (w Wx wr:World):Prop where
 size:Wx.heap.size≤wr.heap.size
 same:∀ b,w.heap.size<b→b<Wx.heap.size→wr.heap[b]? = Wx.heap[b]?
theorem LX.call {w Wx wr w':World} (h:LX w Wx wr) (hb:Below wr.heap.size wr w'):LX w Wx w':=⟨Nat.le_trans h.size hb.size,fun b h1 h2=>(hb.block b (Nat.lt_of_lt_of_le h2 h.size)).trans (h.same b h1 h2)⟩
theorem LX.set {w Wx wr:World} (h:LX w Wx wr) {c:Nat} (hc:c=w.heap.size∨Wx.heap.size≤c) (o:Nat) (vs:List Value):LX w Wx (wr.setCells c o vs):=by
 have e:=(Ex.refl c wr).store o vs
 exact⟨by rw[e.size];exact h.size,fun b h1 h2=>(e.block b (by omega)).trans (h.same b h1 h2)⟩
theorem LX.rng {w Wx wr:World} (h:LX w Wx wr) {g o:Nat} {vs:List Value} (hg:w.heap.size<g) (lt:g<Wx.heap.size) (hr:Wx.rangeAt g o vs):wr.rangeAt g o vs:=fun j v hv=>(World.cell?_of_block (a:=⟨g,o+j,none⟩) (h.same g hg lt)).trans (hr j v hv)
theorem LX.fc {w Wx wr:World} (h:LX w Wx wr) {x:Fc} {r:Rat} (hx:FcR Wx (w.heap.size+1) x r):FcR wr (w.heap.size+1) x r :=
 ⟨hx.s,Lim.kept hx.n hx.fn h.size (fun b h1 h2=>h.same b (by omega) h2),Lim.kept hx.d hx.fd h.size (fun b h1 h2=>h.same b (by omega) h2),hx.fn,hx.fd⟩
theorem LX.row {w Wx wr:World} (h:LX w Wx wr) {v:Value} {rs:List Rat} (hR:RowF Wx (w.heap.size+1) v rs):RowF wr (w.heap.size+1) v rs:=hR.kept h.size (fun b h1 h2=>h.same b (by omega) h2)
theorem FcR.off {w:World} {B:Nat} {x:Fc} {r:Rat} (h:FcR w B x r):Off x (some w.heap.size) :=
 ⟨fun p b off e q=>by have:=h.n.lt p e;have:=Option.some.inj q;omega,fun p b off e q=>by have:=h.d.lt p e;have:=Option.some.inj q;omega⟩
theorem FcR.newer {w:World} {B c:Nat} {x:Fc} {r:Rat} (h:FcR w B x r) (hc:c<B):Off x (some c) :=
 ⟨fun _ b off e q=>by have:=h.fn b off e;have:=Option.some.inj q;omega,fun _ b off e q=>by have:=h.fd b off e;have:=Option.some.inj q;omega⟩
theorem FcR.set {w:World} {B:Nat} {x:Fc} {r:Rat} (h:FcR w B x r) {c:Nat} (ho:Off x (some c)) (o:Nat) (vs:List Value):FcR (w.setCells c o vs) B x r :=
 ⟨h.s,h.n.setCellsK (fun p b off e q=>ho.1 p b off e (by rw[q])) o vs,h.d.setCellsK (fun p b off e q=>ho.2 p b off e (by rw[q])) o vs,h.fn,h.fd⟩
theorem RowF.two {w:World} {B:Nat} {v:Value} {r s:Rat} (h:RowF w B v [r,s]):∃ g cap x y,v = .slice (some ⟨g,0,none⟩) 2 cap∧B≤g∧g<w.heap.size∧w.rangeAt g 0 (fcE x)∧w.rangeAt g 4 (fcE y)∧FcR w B x r∧FcR w B y s∧Off x (some g)∧Off y (some g):=by
 obtain⟨cs,h1,h2,h3⟩:=h
 match cs,h2 with
 | [x,y],_ =>
  obtain⟨A,cap,e,hr,hb⟩:=OwnG.form (k:=4) (enc:=fcE) (fun _=>rfl) h1
  obtain⟨g,eg,lt,r0⟩:=hr.row 0 (by simp)
  obtain⟨g',eg', -,r1⟩:=hr.row 1 (by simp)
  subst eg
  cases eg'
  obtain⟨q1,q2⟩:=h3 0 (by simp) (by simp)
  obtain⟨q3,q4⟩:=h3 1 (by simp) (by simp)
  rw[e] at q2 q4
  exact⟨g,cap,x,y,e,hb g 0 rfl,lt,r0,r1,q1,q3,q2,q4⟩
theorem I6.cell {w:World} {A:Option Addr} {m cap:Nat} {l:List Int} (h:I6 w (.slice A m cap) l) {i:Nat} (hi:i<l.length):∃ g,A=some ⟨g,0,none⟩∧g<w.heap.size∧w.cell? ⟨g,i,none⟩=some (.int .i64 l[i]):=by
 obtain⟨A',cap',e,hR⟩:=h
 injection e with e1 e2 e3
 subst e1
 exact rows_cell1 hR hi
/-! ### Fractions in boxes -/
structure Fe where
 b:Nat
 x:Fc
 r:Rat
abbrev feL (F:List Fe):List (Nat×List Value):=F.map fun p=>(p.b,fcE p.x)
structure FS (w Wx:World) (F:List Fe) (wr:World):Prop where
 fr:Fr w (feL F) wr
 lx:LX w Wx wr
 fc:∀ p∈F,FcR wr 0 p.x p.r
 off:∀ p∈F,∀ q∈F,Off p.x (some q.b)
 hi:∀ p∈F,p.b=w.heap.size∨Wx.heap.size≤p.b
theorem feL_get {F:List Fe} {k:Nat} {p:Fe} (h:F[k]? = some p):(feL F)[k]? = some (p.b,fcE p.x):=by simp[h]
theorem FS.cell {w Wx wr:World} {F:List Fe} (h:FS w Wx F wr) (k j:Nat) {p:Fe} {v:Value} (hk:F[k]? = some p) (hj:(fcE p.x)[j]? = some v):wr.cell? ⟨p.b,j,none⟩=some v:=h.fr.cell k j (feL_get hk) hj
theorem FS.fz {w Wx wr:World} {F:List Fe} (h:FS w Wx F wr) (k j:Nat) {p:Fe} {v:Value} (hk:F[k]? = some p) (hj:(fcE p.x)[j]? = some v):wr.frozen? ⟨p.b,j,none⟩=false:=h.fr.fz k j (feL_get hk) hj
theorem FS.frac {w Wx wr:World} {F:List Fe} (h:FS w Wx F wr) (k:Nat) {p:Fe} (hk:F[k]? = some p):FracR 0 wr (.agg (fcE p.x).toArray) p.r:=(h.fc p (List.mem_of_getElem? hk)).frac
theorem FS.call {w Wx wr w':World} {F:List Fe} (h:FS w Wx F wr) (hb:Below wr.heap.size wr w'):FS w Wx F w':=⟨h.fr.call hb,h.lx.call hb,fun p hp=>(h.fc p hp).below hb,h.off,h.hi⟩
theorem FS.drew {w Wx wr:World} {F:List Fe} (h:FS w Wx F wr):FS w Wx F wr.drew:=h.call (Below.refl _ _).drew
theorem FS.tail {w Wx wr:World} {p:Fe} {F:List Fe} (h:FS w Wx (p::F) wr):FS w Wx F wr :=
 ⟨h.fr.tail,h.lx,fun q hq=>h.fc q (List.mem_cons_of_mem _ hq),fun q hq q' hq'=>h.off q (List.mem_cons_of_mem _ hq) q' (List.mem_cons_of_mem _ hq'),fun q hq=>h.hi q (List.mem_cons_of_mem _ hq)⟩
theorem FS.lt {w Wx wr:World} {F:List Fe} (h:FS w Wx F wr) {p:Fe} (hp:p∈F):p.b<wr.heap.size:=h.fr.hi (p.b,fcE p.x) (List.mem_map.2 ⟨p,hp,rfl⟩)
theorem FS.new {w Wx wr wo:World} {F:List Fe} (h:FS w Wx F wr) (hb:Below wr.heap.size wr wo) {y:Fc} {r:Rat} (hy:FcR wo wr.heap.size y r):FS w Wx (⟨wo.heap.size,y,r⟩::F) (wo.alloc (.cells (fcE y).toArray 68)):=by
 have ba:=(Below.refl _ wo).alloc (Nat.le_refl _) (.cells (fcE y).toArray 68)
 have h1:=h.call hb
 refine⟨h1.fr.alloc (fcE y) _,h1.lx.call ba,fun p hp=>?_,fun p hp q hq=>?_,fun p hp=>?_⟩
 ·rcases List.mem_cons.1 hp with rfl|hp
  ·exact(hy.mono (Nat.zero_le _)).below ba
  ·exact(h1.fc p hp).below ba
 ·rcases List.mem_cons.1 hp with rfl|hp
  ·rcases List.mem_cons.1 hq with rfl|hq
   ·exact hy.off
   ·exact hy.newer (h.lt hq)
  ·rcases List.mem_cons.1 hq with rfl|hq
   ·exact(h1.fc p hp).off
   ·exact h.off p hp q hq
 ·rcases List.mem_cons.1 hp with rfl|hp
  ·exact Or.inr h1.lx.size
  ·exact h.hi p hp
theorem FS.store {w Wx wr wo:World} {F:List Fe} (h:FS w Wx F wr) (hb:Below wr.heap.size wr wo) {y:Fc} {r:Rat} (hy:FcR wo wr.heap.size y r) (k:Nat) {p:Fe} (hk:F[k]? = some p):FS w Wx (F.set k ⟨p.b,y,r⟩) (wo.setCells p.b 0 (fcE y)):=by
 have h1:=h.call hb
 have hp:=List.mem_of_getElem? hk
 have mem:∀ q∈F.set k ⟨p.b,y,r⟩,q=⟨p.b,y,r⟩∨q∈F:=fun q hq=>by
  rcases List.mem_or_eq_of_mem_set hq with g|g
  ·exact Or.inr g
  ·exact Or.inl g
 have bx:∀ q∈F.set k ⟨p.b,y,r⟩,q.b<wr.heap.size:=fun q hq=>by
  rcases mem q hq with rfl|g
  ·exact(show p.b<wr.heap.size from h.lt hp)
  ·exact h.lt g
 refine⟨?_,h1.lx.set (h.hi p hp) 0 _,fun q hq=>?_,fun q hq q' hq'=>?_,fun q hq=>?_⟩
 ·have e:feL (F.set k ⟨p.b,y,r⟩)=(feL F).set k (p.b,fcE y):=by simp[feL,List.map_set]
  rw[e]
  exact h1.fr.put k (feL_get hk) (fcE y) rfl
 ·rcases mem q hq with rfl|g
  ·exact(hy.set (hy.newer (h.lt hp)) 0 _).mono (Nat.zero_le _)
  ·exact(h1.fc q g).set (h.off q g p hp) 0 _
 ·rcases mem q hq with rfl|g
  ·exact hy.newer (bx q' hq')
  ·rcases mem q' hq' with rfl|g'
   ·exact h.off q g p hp
   ·exact h.off q g q' g'
 ·rcases mem q hq with rfl|g
  ·exact h.hi p hp
  ·exact h.hi q g
theorem tF_bd {l:List Int} (h:∀ x∈l, -1099511627776≤x∧x≤1099511627776) (i:Nat) (hi:i<l.length):(Mo.tF l i).natAbs≤1099511627776:=by
 have:=h _ (List.getElem_mem hi)
 rw[Mo.tF,Mo.getD_get hi]
 omega
theorem FL.divI {a b:Int} {L:Nat} (hb:0<b) (ha:(canon a.natAbs).length≤L) (hl:(canon b.natAbs).length≤L):FL ((a:Rat)/(b:Rat)) L:=by
 rw[div_mk _ _ (by rw[Rat.num_intCast];exact hb),Rat.num_intCast,Rat.den_intCast,Rat.den_intCast,Rat.num_intCast]
 refine FL.of (by omega) ?_ ?_
 ·rw[show a*((1:Nat):Int)=a by omega];exact ha
 ·rw[Nat.one_mul,show b.toNat=b.natAbs by omega];exact hl
theorem sol_len {ts vs:List Int} (hl:vs.length=ts.length) (hn:ts.length≤200) (ht:∀ x∈ts, -1099511627776≤x∧x≤1099511627776) (hv:∀ x∈vs, -1099511627776≤x∧x≤1099511627776) (hD:0<Ls.D (Mo.tF ts) ts.length) (h0:0<ts.length) :
  FL (Ls.x0 (Mo.tF ts) (Mo.tF vs) ts.length) 20∧FL (Ls.x1 (Mo.tF ts) (Mo.tF vs) ts.length) 20:=by
 have bt:=fun i hi=>tF_bd ht i hi
 have bv:=fun i (hi:i<ts.length)=>tF_bd hv i (by omega)
 have b1:∀ i,i<ts.length→(Ls.one i).natAbs≤1099511627776:=fun i _=>by show (1:Int).natAbs≤_;omega
 have sum:=fun (a b:Nat→Int) (ha:∀ i,i<ts.length→(a i).natAbs≤1099511627776) (hb:∀ i,i<ts.length→(b i).natAbs≤1099511627776)=>S_len (n:=ts.length) hn ha hb
 have sub:∀ a b c d:Int,(canon a.natAbs).length≤3→(canon b.natAbs).length≤3→(canon c.natAbs).length≤3→(canon d.natAbs).length≤3→(canon (a*b-c*d).natAbs).length≤7:=fun a b c d ha hb hc hd=>by
  have h1:=len_mulZ a b
  have h2:=len_mulZ c d
  have:=len_addZ (X:=a*b) (Y:=-(c*d)) (L:=6) (by omega) (by rw[Int.natAbs_neg];omega)
  rw[← Int.sub_eq_add_neg] at this
  omega
 have f1':FL (Ls.x1 (Mo.tF ts) (Mo.tF vs) ts.length) 7 :=
  FL.divI hD (sub _ _ _ _ (sum _ _ bt bv) (sum _ _ b1 b1) (sum _ _ b1 bt) (sum _ _ b1 bv)) (sub _ _ _ _ (sum _ _ bt bt) (sum _ _ b1 b1) (sum _ _ b1 bt) (sum _ _ b1 bt))
 refine⟨?_,f1'.mono (by decide)⟩
 have:=((FL.int (L:=3) (sum _ _ b1 bv) (by decide)).sub ((FL.int (L:=3) (sum _ _ b1 bt) (by decide)).mul f1')).div (FL.int (L:=3) (sum _ _ b1 b1) (by decide)) (by rw[Rat.num_intCast,Ls.S_one];omega)
 exact this.mono (by decide)
end Wd
end Go.Proofs.YtdnogmanbdgadaaGreatDoor
