/-
  Lemmas and walks, texts joined: Law, MPa, MPl, MWalk1, MWalk2.
-/
import Derived.Deep.RegionHeld3
import Derived.WalkKit
import Derived.Deep.WholeRow
import Derived.Deep.MidRow
import Derived.Below
import Derived.Deep.QuietTactic
import Derived.ProofKit
import Derived.Outline
import Derived.Lib.Hide
import Derived.BigQuiet
import Derived.WalkLawsBesides
import Derived.WalkSpells
import Derived.Test.YtdnogmanbdgadaaGreatDoorRows
set_option linter.unusedSimpArgs false
set_option linter.unusedVariables false
set_option maxRecDepth 100000
set_option maxHeartbeats 40000000
namespace Go.Proofs.YtdnogmanbdgadaaGreatDoor
namespace Lw
open Go.RowKit

section
variable {P : Program}
theorem wp_store_new {op:Oper} {a:Act} {w:World} {K:Act→World→Prop} {Q:Exit→Act→World→Prop} (ty:TypeId) (x y:Operand) (ho:op.op = .store ty x y)
  (c c':Array Value) (hx:a.eval x = .pointer (some ⟨w.heap.size,0,none⟩)) (hy:a.eval y = .agg c')
  (hi:(P.info? ty).map (·.size)=some c'.size) (hs:c.size=c'.size) (h1:c'.all (·.oneCell')=true)
  (h:K (a.put op.dst undef) (w.alloc (.cells c' ty))):op.wp P a (w.alloc (.cells c ty)) K Q:=by
 unfold Oper.wp execOp
 simp only[ho,hx,hy,Instr.storeAt,Instr.sureAddr,Sem.run_bind,Sem.run_pure,Result.andThen_ok,run_storeVar_new w ty c c' hi hs h1]
 exact h
theorem wpList_store_new {ops:Array Oper} {rest:List Oper} {op:Oper} {a:Act} {w:World} {Q:Exit→Act→World→Prop} (hgd:op.guard=none) (ty:TypeId) (x y:Operand) (ho:op.op = .store ty x y)
  (c c':Array Value) (hx:a.eval x = .pointer (some ⟨w.heap.size,0,none⟩)) (hy:a.eval y = .agg c')
  (hi:(P.info? ty).map (·.size)=some c'.size) (hs:c.size=c'.size) (h1:c'.all (·.oneCell')=true)
  (h:wpList P ops Q rest (a.put op.dst undef) (w.alloc (.cells c' ty))):wpList P ops Q (op::rest) a (w.alloc (.cells c ty)) :=
 wpList_plain hgd fun _ hK=>wp_store_new ty x y ho c c' hx hy hi hs h1 (hK _ _ h)
end
section
variable {P : Program}
theorem wpList_store_new_at {ops:Array Oper} {rest:List Oper} {op:Oper} {a:Act} {w:World} {Q:Exit→Act→World→Prop} (hgd:op.guard=none) (ty:TypeId) (x y:Operand) (ho:op.op = .store ty x y)
  (c c':Array Value) (n:Nat) (hn:n=w.heap.size) (hx:a.eval x = .pointer (some ⟨n,0,none⟩)) (hy:a.eval y = .agg c')
  (hi:(P.info? ty).map (·.size)=some c'.size) (hs:c.size=c'.size) (h1:c'.all (·.oneCell')=true)
  (h:wpList P ops Q rest (a.put op.dst undef) (w.alloc (.cells c' ty))):wpList P ops Q (op::rest) a (w.alloc (.cells c ty)):=by
 subst hn
 exact wpList_store_new hgd ty x y ho c c' hx hy hi hs h1 h
end
theorem below_then {w0 w w':World} (h:Below w0.heap.size w0 w) (hb:Below w.heap.size w w'):Below w0.heap.size w0 w':=h.trans (hb.mono h.size)
theorem drewN_below2 {B:Nat} {a w:World} (h:Below B a w) (n:Nat):Below B a (w.drewN n):=⟨h.os,h.tape,h.output,h.size,h.block⟩
theorem there_drewN {w:World} {b o n:Nat} (h:w.there b o n) (k:Nat):(w.drewN k).there b o n:=fun j hj=>by simpa using h j hj
theorem bcell {W w1:World} (hb:Below W.heap.size W w1):(∀ b o,b<W.heap.size→w1.cell? ⟨b,o,none⟩=W.cell? ⟨b,o,none⟩)∧(∀ b o,b<W.heap.size→w1.frozen? ⟨b,o,none⟩=W.frozen? ⟨b,o,none⟩) :=
 ⟨fun b o h=>hb.cell (p:=⟨b,o,none⟩) h,fun b o h=>hb.frozen (p:=⟨b,o,none⟩) h⟩
theorem there_new (w:World) (c:Array Value) (t:TypeId) (n:Nat) (hn:n≤c.size):(w.alloc (.cells c t)).there w.heap.size 0 n:=fun j hj=>by
 rw[Nat.zero_add,World.cell?_alloc_at _ _ _ _ rfl,World.frozen?_alloc_at _ _ _ _ rfl,Array.getElem?_eq_getElem (by omega)]
 exact⟨rfl,rfl⟩
theorem there_below {W w1:World} {b o n:Nat} (h:W.there b o n) (hb:Below W.heap.size W w1) (hlt:b<W.heap.size):w1.there b o n:=fun j hj=>by
 rw[hb.cell (p:=⟨b,o+j,none⟩) hlt,hb.frozen (p:=⟨b,o+j,none⟩) hlt]
 exact h j hj
theorem rangeAt_below {W w1:World} {b o:Nat} {cs:List Value} (h:W.rangeAt b o cs) (hb:Below W.heap.size W w1) (hlt:b<W.heap.size):w1.rangeAt b o cs:=fun j v hv=>by
 rw[hb.cell (p:=⟨b,o+j,none⟩) hlt]
 exact h j v hv
theorem rangeAt_new (w:World) (cs:List Value) (t:TypeId):(w.alloc (.cells cs.toArray t)).rangeAt w.heap.size 0 cs:=fun j v hv=>by
 rw[Nat.zero_add,World.cell?_alloc_at _ _ _ _ rfl]
 simpa using hv
theorem below_setCells {B:Nat} {w0:World} (b:Nat) (hB:B≤b):∀ (vs:List Value) (o:Nat) (w:World),Below B w0 w→Below B w0 (w.setCells b o vs)
 | [],_,_,h=>h
 | v::r,o,w,h=>by
  rw[World.setCells]
  exact below_setCells b hB r (o+1) _ (h.setCell hB v)
section
variable {P : Program}
theorem ret_cell {fn:Func} {p:Tmp} {ty:TypeId} (h:fn.results = #[.cell p ty]) (tmps:Array Value) (w:World) (b:Nat) (cs:List Value) (d:TypeDesc)
  (hp:tmps.getD p undef = .pointer (some ⟨b,0,none⟩)) (hr:w.rangeAt b 0 cs) (hu:P.underlying ty=some d) (hd:d.isRow=true) (hi:(P.info? ty).map (·.size)=some cs.length) :
  (results fn tmps).run P w = .ok (.agg cs.toArray) w:=by
 have hp':tmps[p]?.getD undef = .pointer (some ⟨b,0,none⟩):=by simpa using hp
 simp[results,h,hp',asAddr,run_loadVar_mid w b 0 ty cs d hr hu hd hi]
theorem ret_cell_tmp {fn:Func} {p u:Tmp} {ty:TypeId} (h:fn.results = #[.cell p ty, .tmp u]) (tmps:Array Value) (w:World) (b:Nat) (cs:List Value) (d:TypeDesc)
  (hp:tmps.getD p undef = .pointer (some ⟨b,0,none⟩)) (hr:w.rangeAt b 0 cs) (hu:P.underlying ty=some d) (hd:d.isRow=true) (hi:(P.info? ty).map (·.size)=some cs.length) :
  (results fn tmps).run P w = .ok (.tuple #[.agg cs.toArray,tmps.getD u undef]) w:=by
 have hp':tmps[p]?.getD undef = .pointer (some ⟨b,0,none⟩):=by simpa using hp
 simp[results,h,hp',asAddr,run_loadVar_mid w b 0 ty cs d hr hu hd hi,Result.andThen]
theorem ret_cell_tmp2 {fn:Func} {p u v:Tmp} {ty:TypeId} (h:fn.results = #[.cell p ty, .tmp u, .tmp v]) (tmps:Array Value) (w:World) (b:Nat) (cs:List Value) (d:TypeDesc)
  (hp:tmps.getD p undef = .pointer (some ⟨b,0,none⟩)) (hr:w.rangeAt b 0 cs) (hu:P.underlying ty=some d) (hd:d.isRow=true) (hi:(P.info? ty).map (·.size)=some cs.length) :
  (results fn tmps).run P w = .ok (.tuple #[.agg cs.toArray,tmps.getD u undef,tmps.getD v undef]) w:=by
 have hp':tmps[p]?.getD undef = .pointer (some ⟨b,0,none⟩):=by simpa using hp
 simp[results,h,hp',asAddr,run_loadVar_mid w b 0 ty cs d hr hu hd hi,Result.andThen]
end
open Go.RowKit Go
section
variable {P : Program} {ops : Array Oper} {Q : Exit → Act → World → Prop} {md : Region.Mode} {S : World → Prop}
theorem tK (i:Nat) {oi:Oper} {v:Value} {n:Nat} {listed:Array Bool} {a a':Act} {w:World} (hS:S w)
  (hi:ops[i]? = some oi:=by(try simp only[List.getElem?_toArray,List.getElem?_cons_succ,List.getElem?_cons_zero]);(try rfl))
  (hy:YieldsIf P ops S oi v a:=by exact Or.inl ⟨by rfl,by intro w hSw;clear hSw;go_simp;try with_reducible rfl⟩) (h:wpAnyH P md ops Q S n (listed.setIfInBounds i true) a' w)
  (hn:Region.noSelect ops=true:=by kernel_rfl) (hf:Region.free md ops listed i=true:=by kernel_rfl) (hr:(Region.ready md ops listed).contains i=true:=by kernel_rfl)
  (hQ:∀ c a w,Q (.panic c) (a.put oi.dst v) w→Q (.panic c) a w:=by exact fun _ _ _ h=>h)
  (ha:a.put oi.dst v=a':=by first|(simp only[Act.put,List.setIfInBounds_toArray,List.set_cons_zero,List.set_cons_succ];done)|(simp only[Act.put,List.setIfInBounds_toArray,List.set_cons_zero,List.set_cons_succ];rfl)|rfl):wpAnyH P md ops Q S (n+1) listed a w:=by
 subst ha
 exact wpAnyH_take hi hn hf hr hQ hy hS h
theorem s1 {α:Type _} {l:List α} {i:Nat} {a:α}:l.toArray.setIfInBounds i a=(l.set i a).toArray:=List.setIfInBounds_toArray ..
theorem s2 {α:Type _} {l:List α} {x y:α}:(x::l).set 0 y=y::l:=List.set_cons_zero ..
theorem s3 {α:Type _} {l:List α} {i:Nat} {x y:α}:(x::l).set (i+1) y=x::l.set i y:=List.set_cons_succ ..
end
end Lw
namespace Mp

def stepL:List Int:=[23670,23676,23688,23700,23712,23724,23736,23748,23760,23778,23790,23802,23826,23856,23880,23892,23910,23922,23934,23952,23970,23988,24072,24108,24150,24186,24204]
def stepAt (j:Nat):Int:=stepL.getD j 0
def lpsTo (k:Int):Nat→Int
 | 0=>10
 | i+1=>lpsTo k i+if stepAt i≤k then 1 else 0
def lps (k:Int):Int:=lpsTo k 27
theorem lpsTo_bd (k:Int) (i:Nat):10≤lpsTo k i∧lpsTo k i≤10+i:=by
 induction i with
 | zero=>simp[lpsTo]
 | succ i ih=>simp only[lpsTo];split <;> omega
theorem lps_step:∀ k:Nat,k<2000→lps (23500+k+1)≤lps (23500+k)+1∧lps (23500+k)≤lps (23500+k+1):=by decide +kernel
end Mp
namespace Mp

def fday (y m d:Int):Int:=365*y+y/4-y/100+y/400+(153*m-457)/5+d-730426
def dn (y m d:Int):Int:=if m<3 then fday (y-1) (m+12) d else fday y m d
def mo (y m:Int):Int:=dn y m 1
theorem dn_mo (y m d:Int):dn y m d=mo y m+d-1:=by unfold mo dn fday;split <;> omega
theorem mo_13 (y:Int):mo y 13=mo (y+1) 1:=by unfold mo dn fday;rw[if_neg (by omega),if_pos (by omega)];omega
theorem mo_year (y:Int):mo y 1=365*(y-1)+(y-1)/4-(y-1)/100+(y-1)/400-730119:=by unfold mo dn fday;rw[if_pos (by omega)];omega
theorem mo_year_le (a b:Int) (h:a≤b):mo a 1≤mo b 1:=by rw[mo_year,mo_year];omega
theorem mo_le (y a b:Int) (h1:1≤a) (h:a≤b):mo y a≤mo y b:=by
 unfold mo dn fday
 split <;> split <;> omega
theorem mo_len (y m:Int) (h1:1≤m) (h:m≤12):mo y m+28≤mo y (m+1)∧mo y (m+1)≤mo y m+31:=by
 unfold mo dn fday
 split <;> split <;> omega
structure IsYM (n y m:Int):Prop where
 m1:1≤m
 m12:m≤12
 lo:mo y m≤n
 hi:n<mo y (m+1)
theorem IsYM.ylo {n y m:Int} (h:IsYM n y m):mo y 1≤n:=by have:=mo_le y 1 m (by omega) h.m1;have:=h.lo;omega
theorem IsYM.yhi {n y m:Int} (h:IsYM n y m):n<mo (y+1) 1:=by have:=mo_le y (m+1) 13 (by have:=h.m1;omega) (by have:=h.m12;omega);have:=h.hi;rw[← mo_13];omega
theorem year_uniq {n y z:Int} (h1:mo y 1≤n) (h2:n<mo (y+1) 1) (h3:mo z 1≤n) (h4:n<mo (z+1) 1):y=z:=by
 rcases Int.lt_trichotomy y z with h|h|h
 ·have:=mo_year_le (y+1) z (by omega);omega
 ·exact h
 ·have:=mo_year_le (z+1) y (by omega);omega
theorem month_uniq {n y m k:Int} (a1:1≤m) (b1:1≤k) (h1:mo y m≤n) (h2:n<mo y (m+1)) (h3:mo y k≤n) (h4:n<mo y (k+1)):m=k:=by
 rcases Int.lt_trichotomy m k with h|h|h
 ·have:=mo_le y (m+1) k (by omega) (by omega);omega
 ·exact h
 ·have:=mo_le y (k+1) m (by omega) (by omega);omega
theorem year_ex (n:Int) (lo:Int) (k:Nat) (h1:mo lo 1≤n) (h2:n<mo (lo+k) 1):∃ y:Int,lo≤y∧y<lo+k∧mo y 1≤n∧n<mo (y+1) 1:=by
 induction k with
 | zero=>simp at h2;omega
 | succ k ih =>
  by_cases h:n<mo (lo+k) 1
  ·obtain⟨y,a,b,c,d⟩:=ih h
   exact⟨y,a,by omega,c,d⟩
  ·exact⟨lo+k,by omega,by omega,by omega,by rw[show lo+(k:Int)+1=lo+((k+1:Nat):Int) by omega];exact h2⟩
theorem month_ex (n y:Int) (k:Nat) (h1:mo y 1≤n) (h2:n<mo y (1+k)):∃ m:Int,1≤m∧m<1+k∧mo y m≤n∧n<mo y (m+1):=by
 induction k with
 | zero=>simp at h2;omega
 | succ k ih =>
  by_cases h:n<mo y (1+k)
  ·obtain⟨m,a,b,c,d⟩:=ih h
   exact⟨m,a,by omega,c,d⟩
  ·exact⟨1+k,by omega,by omega,by omega,by rw[show 1+(k:Int)+1=1+((k+1:Nat):Int) by omega];exact h2⟩
theorem ym_ex (n:Int) (h1:-10400≤n) (h2:n≤36700):∃ y m:Int,1971≤y∧y≤2100∧IsYM n y m:=by
 obtain⟨y,a,b,c,d⟩:=year_ex n 1971 130 (by rw[mo_year];omega) (by rw[mo_year];omega)
 obtain⟨m,e,f,g,i⟩:=month_ex n y 12 c (by rw[show (1:Int)+((12:Nat):Int)=13 by omega,mo_13];exact d)
 exact⟨y,m,a,by omega,e,by omega,g,i⟩
theorem ym_uniq {n y m z k:Int} (h:IsYM n y m) (g:IsYM n z k):y=z∧m=k:=by
 have e:=year_uniq h.ylo h.yhi g.ylo g.yhi
 subst e
 exact⟨rfl,month_uniq h.m1 g.m1 h.lo h.hi g.lo g.hi⟩
theorem le_of_mo {n y z:Int} (h:mo z 1≤n) (g:n<mo (y+1) 1):z≤y:=by
 rcases Int.lt_or_le y z with k|k
 ·have:=mo_year_le (y+1) z (by omega);omega
 ·exact k
theorem guess_hi (q:Nat) (h:q<110):mo (2000+q) 1≤366*q:=by
 have:∀ q:Nat,q<110→mo (2000+q) 1≤366*q:=by decide +kernel
 exact this q h
theorem guess_lo (q:Nat) (h:q<40):mo (2000-q) 1 ≤ -365*q:=by
 have:∀ q:Nat,q<40→mo (2000-q) 1 ≤ -365*q:=by decide +kernel
 exact this q h
theorem start_hi (n y:Int) (h0:0≤n) (h1:n≤36889) (g:n<mo (y+1) 1):2000+n/366≤y:=by
 refine le_of_mo (n:=n) ?_ g
 have:=guess_hi (n/366).toNat (by omega)
 rw[show ((n/366).toNat:Int)=n/366 by omega] at this
 omega
theorem start_lo (n y:Int) (h0:n<0) (h1:-10592≤n) (g:n<mo (y+1) 1):2000-(364-n)/365≤y:=by
 refine le_of_mo (n:=n) ?_ g
 have:=guess_lo ((364-n)/365).toNat (by omega)
 rw[show (((364-n)/365).toNat:Int)=(364-n)/365 by omega] at this
 omega
theorem IsYM.range {n y m:Int} (h:IsYM n y m) (a:1971≤y) (b:y≤2100):-10592≤n∧n≤36889:=by
 have h1:=mo_year_le 1971 y a
 have h2:=mo_year_le (y+1) 2101 (by omega)
 have h3:=h.ylo
 have h4:=h.yhi
 rw[mo_year 1971] at h1
 rw[mo_year 2101] at h2
 omega
def bgv (n y m:Int):Int:=n*86400000000-43200000000+lps (12*y+m-1)*1000000+32184000
theorem lps_bd (k:Int):10≤lps k∧lps k≤37:=by have:=lpsTo_bd k 27;unfold lps;omega
theorem bgv_bd (n y m:Int) (h1:-10592≤n) (h2:n≤36889):-1000000000000000≤bgv n y m∧bgv n y m≤4000000000000000:=by
 have:=lps_bd (12*y+m-1);unfold bgv;omega
def wholeP (y m d:Int):Prop:=1972≤y∧y<2100∧1≤m∧m≤12∧1≤d∧d≤mo y (m+1)-mo y m
theorem wholeP_ym {y m d:Int} (h:wholeP y m d):IsYM (dn y m d) y m:=by
 obtain⟨_,_,a,b,c,e⟩:=h
 rw[dn_mo]
 exact⟨a,b,by omega,by omega⟩
def wholeB (y m d:Int):Bool:=decide (1972≤y) && decide (y<2100) && decide (1≤m) && decide (m≤12) && decide (1≤d) && decide (d≤mo y (m+1)-mo y m)
theorem wholeB_iff (y m d:Int):wholeB y m d=true↔wholeP y m d:=by
 unfold wholeB wholeP
 simp only[Bool.and_eq_true,decide_eq_true_eq,and_assoc]
theorem wholeB_no {y m d:Int} (h:¬ wholeP y m d):false=wholeB y m d:=by
 cases e:wholeB y m d with
 | false=>rfl
 | true=>exact absurd ((wholeB_iff y m d).1 e) h
theorem wholeB_yes {y m d:Int} (h:wholeP y m d):true=wholeB y m d:=((wholeB_iff y m d).2 h).symm
def leapday (y m d:Int):Prop:=d=mo y (m+1)-mo y m∧lps (12*y+m)=lps (12*y+m-1)+1
def fromOk (y m d h i s u:Int):Prop:=wholeP y m d∧0≤h∧h≤23∧0≤i∧i≤59∧0≤s∧0≤u∧u<1000000∧(s<60∨s=60∧h=23∧i=59∧leapday y m d)
def timeOf (y m d h i s u:Int):Int:=bgv (dn y m d) y m+((3600*h+60*i+s)*1000000+u)
def FromIs (y m d h i s u t e:Int):Prop:=(fromOk y m d h i s u∧t=timeOf y m d h i s u∧e=0)∨(¬ fromOk y m d h i s u∧t=0∧e=2)
theorem next_ym {n y m z k:Int} (h:IsYM n y m) (g:IsYM (n+1) z k):(z=y∧k=m∧n+1<mo y (m+1))∨(12*z+k=12*y+m+1∧n+1=mo y (m+1)):=by
 have a1:=h.m1
 have a2:=h.m12
 by_cases hl:n+1<mo y (m+1)
 ·obtain⟨e1,e2⟩:=ym_uniq g ⟨a1,a2,by have:=h.lo;omega,hl⟩
  exact Or.inl ⟨e1,e2,hl⟩
 ·have he:n+1=mo y (m+1):=by have:=h.hi;omega
  by_cases h12:m=12
  ·subst h12
   rw[show (12:Int)+1=13 by omega,mo_13] at he
   obtain⟨e1,e2⟩:=ym_uniq g (y:=z) (m:=k) (z:=y+1) (k:=1) ⟨by omega,by omega,by omega,by have:=mo_len (y+1) 1 (by omega) (by omega);omega⟩
   exact Or.inr ⟨by omega,by rw[show (12:Int)+1=13 by omega,mo_13];exact he⟩
  ·obtain⟨e1,e2⟩:=ym_uniq g (y:=z) (m:=k) (z:=y) (k:=m+1) ⟨by omega,by omega,by omega,by have:=mo_len y (m+1) (by omega) (by omega);omega⟩
   exact Or.inr ⟨by omega,he⟩
theorem lps_next (y m:Int) (a:1971≤y) (b:y≤2100) (c:1≤m) (d:m≤12):lps (12*y+m)≤lps (12*y+m-1)+1∧lps (12*y+m-1)≤lps (12*y+m):=by
 have:=lps_step (12*y+m-1-23500).toNat (by omega)
 rw[show (23500:Int)+((12*y+m-1-23500).toNat:Nat)=12*y+m-1 by omega,show 12*y+m-1+1=12*y+m by omega] at this
 exact this
theorem day_len {y m d z k:Int} (hw:wholeP y m d) (hz:IsYM (dn y m d+1) z k) :
  (bgv (dn y m d+1) z k=bgv (dn y m d) y m+86400000000∧¬ leapday y m d)∨(bgv (dn y m d+1) z k=bgv (dn y m d) y m+86401000000∧leapday y m d):=by
 have hI:=wholeP_ym hw
 obtain⟨a1,a2,a3,a4,a5,a6⟩:=hw
 have nx:=next_ym hI hz
 have ml:=mo_len y m a3 a4
 have dl:bgv (dn y m d+1) z k=bgv (dn y m d) y m+86400000000+(lps (12*z+k-1)-lps (12*y+m-1))*1000000:=by unfold bgv;omega
 have ls:=lps_next y m (by omega) (by omega) a3 a4
 unfold leapday
 rcases nx with⟨rfl,rfl,h3⟩|⟨h3,h4⟩
 ·rw[dn_mo] at h3
  exact Or.inl ⟨by omega,fun ⟨e,_⟩=>by omega⟩
 ·rw[show 12*z+k-1=12*y+m by omega] at dl
  rw[dn_mo] at h4
  by_cases e:lps (12*y+m)=lps (12*y+m-1)
  ·exact Or.inl ⟨by omega,fun ⟨_,f⟩=>by omega⟩
  ·exact Or.inr ⟨by omega,by omega,by omega⟩
theorem wholeP_range {y m d:Int} (hw:wholeP y m d):-10227≤dn y m d∧dn y m d+1≤36525:=by
 have hI:=wholeP_ym hw
 have h1:=mo_year_le 1972 y hw.1
 have h2:=mo_year_le (y+1) 2100 (by have:=hw.2.1;omega)
 have h3:=hI.ylo
 have h4:=hI.yhi
 rw[mo_year 1972] at h1
 rw[mo_year 2100] at h2
 omega
theorem from_60 {y m d h i s u B:Int} (hw:wholeP y m d) (h1:0≤h) (h2:h≤23) (h3:0≤i) (h4:i≤59) (h5:0≤s) (h7:0≤u) (h8:u<1000000)
  (hl:(B=bgv (dn y m d) y m+86400000000∧¬ leapday y m d)∨(B=bgv (dn y m d) y m+86401000000∧leapday y m d))
  (hs:s=60) (hp:86400000000≤(3600*h+60*i+s)*1000000+u) (ht:bgv (dn y m d) y m+((3600*h+60*i+s)*1000000+u)<B):fromOk y m d h i s u:=by
 rcases hl with⟨e,f⟩|⟨e,f⟩
 ·omega
 ·exact⟨hw,h1,h2,h3,h4,h5,h7,h8,Or.inr ⟨hs,by omega,by omega,f⟩⟩
theorem from_60_no {y m d h i s u B:Int} (hl:(B=bgv (dn y m d) y m+86400000000∧¬ leapday y m d)∨(B=bgv (dn y m d) y m+86401000000∧leapday y m d))
  (hs:s=60) (ht:(3600*h+60*i+s)*1000000+u<86400000000∨B≤bgv (dn y m d) y m+((3600*h+60*i+s)*1000000+u)):¬ fromOk y m d h i s u:=by
 rintro ⟨_,h1,h2,h3,h4,h5,h6,h7,h8|⟨h8,h9,h10,h11⟩⟩
 ·omega
 ·rcases hl with⟨e,f⟩|⟨e,f⟩
  ·exact f h11
  ·omega
structure DayOf (t n y m z k:Int):Prop where
 ym:IsYM n y m
 zk:IsYM (n+1) z k
 lo:bgv n y m≤t
 hi:t<bgv (n+1) z k
 n1:-10227≤n
 n2:n≤36524
 y1:1972≤y
 y2:y≤2099
theorem ym_72:IsYM (-10227) 1972 1:=⟨by omega,by omega,by rw[mo_year];omega,by unfold mo dn fday;rw[if_pos (by omega)];omega⟩
theorem ym_00:IsYM 36525 2100 1:=⟨by omega,by omega,by rw[mo_year];omega,by unfold mo dn fday;rw[if_pos (by omega)];omega⟩
theorem dn_72:dn 1972 1 1 = -10227:=by decide
theorem dn_00:dn 2100 1 1=36525:=by decide
theorem day_ex_aux (t:Int) (h1:bgv (-10227) 1972 1≤t) (j:Nat):j≤46752→(∀ y m,IsYM (-10227+j) y m→t<bgv (-10227+j) y m) → ∃ n y m z k,DayOf t n y m z k:=by
 induction j with
 | zero =>
  intro _ h
  have:=h 1972 1 (by rw[show (-10227:Int)+((0:Nat):Int) = -10227 by omega];exact ym_72)
  rw[show (-10227:Int)+((0:Nat):Int) = -10227 by omega] at this
  omega
 | succ j ih =>
  intro hj h
  obtain⟨y,m,y1,y2,hy⟩:=ym_ex (-10227+j) (by omega) (by omega)
  by_cases ht:t<bgv (-10227+j) y m
  ·exact ih (by omega) fun y' m' h'=>by obtain⟨rfl,rfl⟩:=ym_uniq h' hy;exact ht
  ·obtain⟨z,k,z1,z2,hz⟩:=ym_ex (-10227+j+1) (by omega) (by omega)
   refine⟨-10227+j,y,m,z,k,hy,hz,by omega,?_,by omega,by omega,?_,?_⟩
   ·have:=h z k (by rw[show (-10227:Int)+((j+1:Nat):Int) = -10227+j+1 by omega];exact hz)
    rw[show (-10227:Int)+((j+1:Nat):Int) = -10227+j+1 by omega] at this
    exact this
   ·have h72:=le_of_mo (n:=-10227+j) (z:=1972) (y:=y) (by rw[mo_year];omega) hy.yhi
    exact h72
   ·rcases Int.lt_or_le y 2100 with e|e
    ·omega
    ·have:=mo_year_le 2100 y e;have:=hy.ylo;rw[mo_year 2100] at *;omega
theorem day_ex (t:Int) (h1:bgv (-10227) 1972 1≤t) (h2:t<bgv 36525 2100 1):∃ n y m z k,DayOf t n y m z k :=
 day_ex_aux t h1 46752 (by omega) fun y m h=>by
  obtain⟨rfl,rfl⟩:=ym_uniq h ym_00
  exact h2
theorem DayOf.le {t n y m z k n' y' m':Int} (h:DayOf t n y m z k) (g:IsYM n' y' m') (hb:bgv n' y' m'≤t):n'≤n:=by
 rcases Int.lt_or_le n n' with e|e
 ·by_cases e1:n'=n+1
  ·subst e1
   obtain⟨rfl,rfl⟩:=ym_uniq g h.zk
   have:=h.hi;omega
  ·have a1:=lps_bd (12*y'+m'-1)
   have a2:=lps_bd (12*z+k-1)
   have:=h.hi
   unfold bgv at *
   omega
 ·exact e
theorem DayOf.guess {t n y m z k:Int} (h:DayOf t n y m z k):n≤(t-32184000+43200000000).tdiv 86400000000∧(t-32184000+43200000000).tdiv 86400000000≤n+2:=by
 have a1:=lps_bd (12*y+m-1)
 have a2:=lps_bd (12*z+k-1)
 have h1:=h.lo
 have h2:=h.hi
 have e:=Int.tdiv_eq_ediv (a:=t-32184000+43200000000) (b:=86400000000)
 unfold bgv at h1 h2
 have s:(86400000000:Int).sign=1:=rfl
 rw[s] at e
 split at e <;> omega
theorem DayOf.pass {t n y m z k:Int} (h:DayOf t n y m z k):0≤t-bgv n y m∧t-bgv n y m<86401000000:=by
 have h1:=h.lo
 have h2:=h.hi
 have hw:wholeP y m (n-mo y m+1):=⟨h.y1,by have:=h.y2;omega,h.ym.m1,h.ym.m12,by have:=h.ym.lo;omega,by have:=h.ym.hi;omega⟩
 have e:dn y m (n-mo y m+1)=n:=by rw[dn_mo];omega
 have:=day_len (z:=z) (k:=k) hw (by rw[e];exact h.zk)
 rw[e] at this
 rcases this with⟨a,_⟩|⟨a,_⟩ <;> omega
def mins (p:Int):Int:=if p/1000000/60≤1439 then p/1000000/60 else 1439
/-! ### The reference's tables -/
def julL:List Int:=[1972,1981,1982,1983,1985,1992,1993,1994,1997,2012,2015]
def janL:List Int:=[1973,1974,1975,1976,1977,1978,1979,1980,1988,1990,1991,1996,1999,2006,2009,2017]
def lenL:List Int:=[0,31,28,31,30,31,30,31,31,30,31,30,31]
def julAt (j:Nat):Int:=julL.getD j 0
def janAt (j:Nat):Int:=janL.getD j 0
def lenAt (j:Nat):Int:=lenL.getD j 0
def rlj (y m:Int):Nat→Int
 | 0=>10
 | i+1=>rlj y m i+if julAt i<y∨julAt i=y∧7≤m then 1 else 0
def rln (y m:Int):Nat→Int
 | 0=>rlj y m 11
 | i+1=>rln y m i+if janAt i≤y then 1 else 0
theorem rlj_bd (y m:Int) (i:Nat):10≤rlj y m i∧rlj y m i≤10+i:=by
 induction i with
 | zero=>simp[rlj]
 | succ i ih=>simp only[rlj];split <;> omega
theorem rln_bd (y m:Int) (i:Nat):10≤rln y m i∧rln y m i≤21+i:=by
 induction i with
 | zero=>have:=rlj_bd y m 11;simp only[rln];omega
 | succ i ih=>simp only[rln];split <;> omega
theorem jul_iff {y m:Int} (h1:1≤m) (h2:m≤12) (c:Int):(c<y∨c=y∧7≤m)=(12*c+6≤12*y+m-1):=by apply propext;omega
theorem jan_iff {y m:Int} (h1:1≤m) (h2:m≤12) (c:Int):(c≤y)=(12*c≤12*y+m-1):=by apply propext;omega
theorem rl_lps (y m:Int) (h1:1≤m) (h2:m≤12):rln y m 16=lps (12*y+m-1):=by
 simp only[rln,rlj,lps,lpsTo]
 simp only[show julAt 0=1972 from rfl,show julAt 1=1981 from rfl,show julAt 2=1982 from rfl,show julAt 3=1983 from rfl,show julAt 4=1985 from rfl,show julAt 5=1992 from rfl,show julAt 6=1993 from rfl,show julAt 7=1994 from rfl,show julAt 8=1997 from rfl,show julAt 9=2012 from rfl,show julAt 10=2015 from rfl]
 simp only[show janAt 0=1973 from rfl,show janAt 1=1974 from rfl,show janAt 2=1975 from rfl,show janAt 3=1976 from rfl,show janAt 4=1977 from rfl,show janAt 5=1978 from rfl,show janAt 6=1979 from rfl,show janAt 7=1980 from rfl,show janAt 8=1988 from rfl,show janAt 9=1990 from rfl,show janAt 10=1991 from rfl,show janAt 11=1996 from rfl,show janAt 12=1999 from rfl,show janAt 13=2006 from rfl,show janAt 14=2009 from rfl,show janAt 15=2017 from rfl]
 simp only[show stepAt 0=23670 from rfl,show stepAt 1=23676 from rfl,show stepAt 2=23688 from rfl,show stepAt 3=23700 from rfl,show stepAt 4=23712 from rfl,show stepAt 5=23724 from rfl,show stepAt 6=23736 from rfl,show stepAt 7=23748 from rfl,show stepAt 8=23760 from rfl,show stepAt 9=23778 from rfl,show stepAt 10=23790 from rfl,show stepAt 11=23802 from rfl,show stepAt 12=23826 from rfl,show stepAt 13=23856 from rfl,show stepAt 14=23880 from rfl,show stepAt 15=23892 from rfl,show stepAt 16=23910 from rfl,show stepAt 17=23922 from rfl,show stepAt 18=23934 from rfl,show stepAt 19=23952 from rfl,show stepAt 20=23970 from rfl,show stepAt 21=23988 from rfl,show stepAt 22=24072 from rfl,show stepAt 23=24108 from rfl,show stepAt 24=24150 from rfl,show stepAt 25=24186 from rfl,show stepAt 26=24204 from rfl]
 generalize hK:12*y+m-1=K
 have ej:∀ c:Int,(if c<y∨c=y∧7≤m then(1:Int) else 0)=if 12*c+6≤K then 1 else 0:=fun c=>by simp only[jul_iff (y:=y) h1 h2,hK]
 have en:∀ c:Int,(if c≤y then(1:Int) else 0)=if 12*c≤K then 1 else 0:=fun c=>by rw[← hK];simp only[jan_iff (y:=y) h1 h2]
 simp only[ej,en,Int.reduceMul,Int.reduceAdd]
 ac_rfl
def leapB (y:Int):Bool:=y % 4==0 && (y % 100 != 0 || y % 400==0)
theorem leapB_iff (y:Int):leapB y=true↔y % 4=0∧(y % 100≠0∨y % 400=0):=by
 simp[leapB]
theorem len_two (y:Int):mo y 3-mo y 2=if leapB y=true then 29 else 28:=by
 unfold mo dn fday
 rw[if_neg (by omega),if_pos (by omega)]
 split
 ·rename_i h;rw[leapB_iff] at h;omega
 ·rename_i h;rw[leapB_iff] at h;omega
theorem len_at (y:Int) (k:Nat) (h1:1≤k) (h2:k≤12) (h:k≠2):mo y (k+1)-mo y k=lenAt k:=by
 have:k=1∨k=3∨k=4∨k=5∨k=6∨k=7∨k=8∨k=9∨k=10∨k=11∨k=12:=by omega
 rcases this with rfl|rfl|rfl|rfl|rfl|rfl|rfl|rfl|rfl|rfl|rfl <;> simp[mo,dn,fday,lenAt,lenL] <;> omega
theorem yr_len (y:Int):mo (y+1) 1=mo y 1+365+if leapB y=true then 1 else 0:=by
 rw[mo_year,mo_year]
 split
 ·rename_i h;rw[leapB_iff] at h;omega
 ·rename_i h;rw[leapB_iff] at h;omega
theorem mo_2000:mo 2000 1=0:=by decide
theorem mo_1972:mo 1972 1 = -10227:=by decide
theorem bgv_mono {n y m n' y' m':Int} (h:IsYM n y m) (g:IsYM n' y' m') (hn:n'≤n):bgv n' y' m'≤bgv n y m:=by
 by_cases e:n'=n
 ·subst e
  obtain⟨rfl,rfl⟩:=ym_uniq h g
  exact Int.le_refl _
 ·have a1:=lps_bd (12*y+m-1)
  have a2:=lps_bd (12*y'+m'-1)
  unfold bgv;omega
theorem DayOf.gt {t n y m z k n' y' m':Int} (h:DayOf t n y m z k) (g:IsYM n' y' m') (hb:n<n'):t<bgv n' y' m':=by
 rcases Int.lt_or_le t (bgv n' y' m') with e|e
 ·exact e
 ·have:=h.le g e;omega
theorem ym_first (y m:Int) (h1:1≤m) (h2:m≤12):IsYM (mo y m) y m:=⟨h1,h2,Int.le_refl _,by have:=mo_len y m h1 h2;omega⟩
end Mp
namespace Mw
open Go.RowKit Go.Proofs.YtdnogmanbdgadaaGreatDoor.Mp Lw

def stepV:Array Value:=#[.int .i64 23670, .int .i64 23676, .int .i64 23688, .int .i64 23700, .int .i64 23712, .int .i64 23724, .int .i64 23736, .int .i64 23748, .int .i64 23760, .int .i64 23778, .int .i64 23790, .int .i64 23802, .int .i64 23826, .int .i64 23856, .int .i64 23880, .int .i64 23892, .int .i64 23910, .int .i64 23922, .int .i64 23934, .int .i64 23952, .int .i64 23970, .int .i64 23988, .int .i64 24072, .int .i64 24108, .int .i64 24150, .int .i64 24186, .int .i64 24204]

theorem info_row:(Tryz.prog.info? 263).map (·.size)=some 27:=by kernel_rfl
theorem one_row:stepV.all (·.oneCell')=true:=by simp[stepV,Value.oneCell']
theorem steps_any (w:World) :
  Calls Tryz.prog 220 #[] w fun e w'=>e = .returned (.agg stepV)∧Below w.heap.size w w':=by
 go_enter Tryz.func220,Tryz.ntmps220
 go_wp2_with (refine wpList_store_new rfl _ (.tmp 0) (.tmp 1) rfl _ stepV rfl rfl info_row (by decide) one_row ?_)
 refine bodyPost_ret (v:=.agg stepV) (results_cell_row Tryz.results220 _ _ w.heap.size _ stepV _ _ rfl (heap_alloc_last w _) Tryz.underlying263 rfl info_row) rfl ⟨rfl,(Below.refl _ _).alloc (Nat.le_refl _) _⟩
theorem stepV_at (k:Nat) (hk:k<27):stepV[k]? = some (.int .i64 (stepAt k)):=by
 unfold stepAt
 have:stepV=(stepL.map (Value.int .i64)).toArray:=rfl
 rw[this]
 simp[List.getD,List.getElem?_eq_getElem (show k<stepL.length from hk)]
theorem leap_any (k:Int) (w:World) :
  Calls Tryz.prog 190 #[.int .i64 k] w fun e w'=>e = .returned (.int .i64 (lps k))∧Below w.heap.size w w':=by
 go_enter Tryz.func190,Tryz.ntmps190
 go_wp2_with (first|(go_at_call 220;refine(steps_any _).mono ?_;rintro e w1 ⟨rfl,hb⟩)|(refine wpList_store_new rfl _ (.tmp 3) (.tmp 6) rfl _ stepV rfl rfl info_row (by decide) one_row ?_))
 have hc:∀ j,j<27→(w1.alloc (.cells stepV 263)).cell? ⟨w1.heap.size,j,none⟩=some (.int .i64 (stepAt j)):=fun j hj=>by
  rw[World.cell?_alloc_at _ _ _ _ rfl,stepV_at j hj]
 have Hb:=Lib.hid hb
 clear hb
 go_loop [4,5,7] (fun n x i=>∃ j:Nat,j≤27∧i = .int .i64 j∧n = .int .i64 (lpsTo k j)) (fun _ _ i=>27-(intOf i).toNat)
 case atStart=>exact⟨0,by omega,rfl,rfl⟩
 case round =>
  obtain⟨j,hj,rfl,rfl⟩:=hrel
  have lb:=lpsTo_bd k j
  by_cases hlt:j<27
  ·have ck:=hc j hlt
   have es:lpsTo k (j+1)=lpsTo k j+if stepAt j≤k then 1 else 0:=rfl
   have i1:(j:Int)<27:=by omega
   by_cases ht:stepAt j≤k
   ·rw[if_pos ht] at es
    have Es:=Lib.hid es
    clear es hc
    go_wp2
    go_round
    case rel=>exact⟨j+1,by omega,by go_num,by rw[Es.out]⟩
    case measure=>simp[intOf];omega
   ·rw[if_neg ht] at es
    have Es:=Lib.hid es
    clear es hc
    go_wp2
    go_round
    case rel=>exact⟨j+1,by omega,by go_num,by rw[Es.out];simp⟩
    case measure=>simp[intOf];omega
  ·obtain rfl:j=27:=by omega
   go_wp2
   go_ret
   exact⟨rfl,(Hb.out.alloc Hb.out.size _)⟩
end Mw
namespace Mw
open Go.RowKit Go.Proofs.YtdnogmanbdgadaaGreatDoor.Mp Lw

theorem ret_int {k:IntKind} {a b:Int} (h:a=b):Ending.returned (.int k a) = .returned (.int k b):=by rw[h]

theorem days_any (y m d:Int) (w:World) (h1:1900≤y) (h2:y≤2200) (h3:1≤m) (h4:m≤13) (h5:-100≤d) (h6:d≤100) :
  Calls Tryz.prog 135 #[.int .i64 y, .int .i64 m, .int .i64 d] w fun e w'=>e = .returned (.int .i64 (dn y m d))∧w=w':=by
 by_cases hc:m<3
 ·go_enter Tryz.func135,Tryz.ntmps135
  go_wp2
  go_ret
  exact⟨ret_int (by unfold dn fday;rw[if_pos hc]),rfl⟩
 ·go_enter Tryz.func135,Tryz.ntmps135
  go_wp2
  go_ret
  exact⟨ret_int (by unfold dn fday;rw[if_neg (by omega)]),rfl⟩

theorem mo_bd (y m:Int) (h1:1900≤y) (h2:y≤2200) (h3:1≤m) (h4:m≤13):-40000≤dn y m 1∧dn y m 1≤80000:=by
 unfold dn fday;split <;> omega

theorem calendar_any (n y m:Int) (w:World) (h:IsYM n y m) (a:1971≤y) (b:y≤2100) :
  Calls Tryz.prog 167 #[.int .i64 n] w fun e w'=>e = .returned (.tuple #[.int .i64 y, .int .i64 m, .int .i64 (n-mo y m+1)])∧w=w':=by
 obtain⟨n1,n2⟩:=h.range a b
 have yl:=h.ylo
 have yh:=h.yhi
 have M1:=h.m1
 have M2:=h.m12
 have Hh:=Lib.hid h
 clear h
 by_cases hs:n<0
 ·have st:=start_lo n y hs n1 yh
  clear yl yh
  go_enter Tryz.func167,Tryz.ntmps167
  go_wp2
  go_loop [2] (fun t=>∃ z:Int,1900≤z∧z≤y∧t = .int .i64 z) (fun t=>(y-intOf t).toNat)
  case atStart=>exact⟨_,by omega,by omega,rfl⟩
  case round =>
   obtain⟨z,z1,z2,rfl⟩:=hrel
   by_cases hz:z=y
   ·subst hz
    have e1:¬ dn (z+1) 1 1≤n:=by have:=Hh.out.yhi;unfold mo at this;omega
    go_wp2_with (go_at_call 135;refine(days_any _ _ _ _ (by omega) (by omega) (by omega) (by omega) (by omega) (by omega)).mono ?_;rintro e w' ⟨rfl,rfl⟩)
    go_loop [3] (fun t=>∃ k:Int,1≤k∧k≤m∧t = .int .i64 k) (fun t=>(m-intOf t).toNat)
    case atStart=>exact⟨1,by omega,by omega,rfl⟩
    case round =>
     obtain⟨k,k1,k2,rfl⟩:=hrel
     have hb:=mo_bd z k (by omega) (by omega) (by omega) (by omega)
     by_cases hk:k=m
     ·subst hk
      have e2:¬ dn z (k+1) 1≤n:=by have:=Hh.out.hi;unfold mo at this;omega
      by_cases e3:k<12
      all_goals
       go_wp2_with (go_at_call 135;refine(days_any _ _ _ _ (by omega) (by omega) (by omega) (by omega) (by omega) (by omega)).mono ?_;rintro e w' ⟨rfl,rfl⟩)
       go_ret3
       exact⟨rfl,rfl⟩
     ·have e2:dn z (k+1) 1≤n:=by have h7:=Hh.out.lo;have:=mo_le z (k+1) m (by omega) (by omega);unfold mo at *;omega
      have e3:k<12:=by omega
      go_wp2_with (go_at_call 135;refine(days_any _ _ _ _ (by omega) (by omega) (by omega) (by omega) (by omega) (by omega)).mono ?_;rintro e w' ⟨rfl,rfl⟩)
      go_round
      case rel=>exact⟨k+1,by omega,by omega,rfl⟩
      case measure=>simp[intOf];omega
   ·have e1:dn (z+1) 1 1≤n:=by have h7:=Hh.out.ylo;have:=mo_year_le (z+1) y (by omega);unfold mo at *;omega
    go_wp2_with (go_at_call 135;refine(days_any _ _ _ _ (by omega) (by omega) (by omega) (by omega) (by omega) (by omega)).mono ?_;rintro e w' ⟨rfl,rfl⟩)
    go_round
    case rel=>exact⟨z+1,by omega,by omega,rfl⟩
    case measure=>simp[intOf];omega
 ·have st:=start_hi n y (by omega) n2 yh
  clear yl yh
  go_enter Tryz.func167,Tryz.ntmps167
  go_wp2
  go_loop [2] (fun t=>∃ z:Int,1900≤z∧z≤y∧t = .int .i64 z) (fun t=>(y-intOf t).toNat)
  case atStart=>exact⟨_,by omega,by omega,rfl⟩
  case round =>
   obtain⟨z,z1,z2,rfl⟩:=hrel
   by_cases hz:z=y
   ·subst hz
    have e1:¬ dn (z+1) 1 1≤n:=by have:=Hh.out.yhi;unfold mo at this;omega
    go_wp2_with (go_at_call 135;refine(days_any _ _ _ _ (by omega) (by omega) (by omega) (by omega) (by omega) (by omega)).mono ?_;rintro e w' ⟨rfl,rfl⟩)
    go_loop [3] (fun t=>∃ k:Int,1≤k∧k≤m∧t = .int .i64 k) (fun t=>(m-intOf t).toNat)
    case atStart=>exact⟨1,by omega,by omega,rfl⟩
    case round =>
     obtain⟨k,k1,k2,rfl⟩:=hrel
     have hb:=mo_bd z k (by omega) (by omega) (by omega) (by omega)
     by_cases hk:k=m
     ·subst hk
      have e2:¬ dn z (k+1) 1≤n:=by have:=Hh.out.hi;unfold mo at this;omega
      by_cases e3:k<12
      all_goals
       go_wp2_with (go_at_call 135;refine(days_any _ _ _ _ (by omega) (by omega) (by omega) (by omega) (by omega) (by omega)).mono ?_;rintro e w' ⟨rfl,rfl⟩)
       go_ret3
       exact⟨rfl,rfl⟩
     ·have e2:dn z (k+1) 1≤n:=by have h7:=Hh.out.lo;have:=mo_le z (k+1) m (by omega) (by omega);unfold mo at *;omega
      have e3:k<12:=by omega
      go_wp2_with (go_at_call 135;refine(days_any _ _ _ _ (by omega) (by omega) (by omega) (by omega) (by omega) (by omega)).mono ?_;rintro e w' ⟨rfl,rfl⟩)
      go_round
      case rel=>exact⟨k+1,by omega,by omega,rfl⟩
      case measure=>simp[intOf];omega
   ·have e1:dn (z+1) 1 1≤n:=by have h7:=Hh.out.ylo;have:=mo_year_le (z+1) y (by omega);unfold mo at *;omega
    go_wp2_with (go_at_call 135;refine(days_any _ _ _ _ (by omega) (by omega) (by omega) (by omega) (by omega) (by omega)).mono ?_;rintro e w' ⟨rfl,rfl⟩)
    go_round
    case rel=>exact⟨z+1,by omega,by omega,rfl⟩
    case measure=>simp[intOf];omega
end Mw
end Go.Proofs.YtdnogmanbdgadaaGreatDoor
