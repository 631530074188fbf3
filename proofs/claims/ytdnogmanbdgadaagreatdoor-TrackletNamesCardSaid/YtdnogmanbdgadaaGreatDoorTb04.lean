/-
  Lemmas and walks, texts joined: Frame, TKPl, TKSet, MNum, MTen, Shelf, MLike, MGrp.
-/
import Derived.Lib.SmallJoins
import Derived.ProofKit
import Derived.Lib.Hide
import Derived.Laws.RangeAny
import Derived.LoopTactic
import Derived.Deep.QuietTactic
import Derived.BigQuiet
import Derived.WalkLawsBesides
import Derived.WalkSpells
import Derived.Shelf.Bits.Mul64
import Derived.Shelf.LaysM
import Derived.Shelf.Pu.ParseUintPublic10
import Derived.Shelf.SlicesE.Clone
import Derived.Shelf.Small.Bits
import Derived.Shelf.Small.Strs
import Derived.Shelf.Small.Utf8
import Derived.Shelf.Small.Wraps
import Derived.Shelf.Strconv.Itoa0
import Derived.Shelf.Strconv.Itoa1
import Derived.Shelf.Strconv.Itoa2
import Derived.Shelf.Strconv.Itoa3
import Derived.Shelf.Strconv.Itoa4
import Derived.Shelf.Strings.Builder1
import Derived.Shelf.Strings.Builder2
import Derived.Shelf.Strings.BuilderF
import Derived.Shelf.Strings.Cut
import Derived.Shelf.Strings.OnBuilder
import Derived.Shelf.Strings.Prefix
import Derived.Shelf.Strings.Repeat
import Derived.Shelf.Strings.Runes
import Derived.Shelf.Strings.Search1
import Derived.Shelf.Strings.Search2
import Derived.Shelf.Strings.Shaped
import Derived.Shelf.Strings.SlTrimAscii
import Derived.Shelf.Strings.Trim
import Derived.Test.YtdnogmanbdgadaaGreatDoorTb01
import Derived.Test.YtdnogmanbdgadaaGreatDoorRows
import Derived.Test.YtdnogmanbdgadaaGreatDoorProg
set_option linter.unusedSimpArgs false
set_option linter.unusedVariables false
set_option maxRecDepth 100000
set_option maxHeartbeats 40000000
namespace Go.Proofs.YtdnogmanbdgadaaGreatDoor
namespace Fr
open Go.Joins Go.ChangeShapes Go.WideShapes Go.RowKit Go.Deep

section
variable {H : Type} {enc : TypeId × Value → H} {P : Program} {w : World} {base : Nat} {spare : Nat → Bool} {held : Bool}
theorem open_agg {r:Reach} {b0:Nat} {t:TypeId} {fs:Array Field} {v:Value} {d:DataW H} {p:List MemPlace} (hs:P.underlying t=some (.struct fs)) (hone:oneCellFields P fs=true) (hC:P.cellsOf t=fs.size)
  (hv:Value.okWide P w r b0 t v) (h:DataW.Trod enc P w base spare held t v d p) :
  ∃ l:List Value,v = .agg l.toArray∧l.length=fs.size ∧ ∃ n:Nat,∀ (j:Nat) (f:Field) (c:Value),fs[j]? = some f→l[j]? = some c → ∃ y,DataW.trod enc P w base spare held n f.type [c]=some y:=by
 obtain⟨cs,rfl,hsz⟩:=okWide_struct hs hv
 obtain⟨l⟩:=cs
 have hl:l.length=fs.size:=hsz.trans hC
 obtain⟨fuel,hf⟩:=h
 obtain⟨xs,n,_,hx,_,hlen,hg⟩:=DataW.trod_struct hs hf
 refine⟨l,rfl,hl,n,fun j f c hj hc=>?_⟩
 obtain⟨o,k⟩:=hone_of hone j f hj
 have hjl:j<l.length:=(List.getElem?_eq_some_iff.1 hc).1
 have h1:=hg j f hj
 rw[o,k] at h1
 have e:((Value.agg l.toArray).cells.toList.drop j).take 1 = [c]:=by
  show (l.drop j).take 1 = [c]
  rw[List.drop_eq_getElem_cons hjl]
  have:=(List.getElem?_eq_some_iff.1 hc).2
  simp[this]
 rw[e] at h1
 have hxl:j<xs.length:=by omega
 exact⟨xs[j],h1.trans (List.getElem?_eq_getElem hxl)⟩
end
theorem one_eq {a b:Value} (h:[a] = [b]):a=b:=by injection h
theorem list5 {l:List Value} (h:l.length=5):∃ a b c d e,l = [a,b,c,d,e]:=by match l,h with | [a,b,c,d,e],_=>exact⟨a,b,c,d,e,rfl⟩
end Fr
namespace Tk

def sgn (a b:Int):Bool:=decide (a<0) != decide (b<0)
def mag (a b:Int):Nat:=a.natAbs*b.natAbs
theorem prod_val (a b:Int):a*b=if sgn a b=true then -((mag a b:Nat):Int) else((mag a b:Nat):Int):=by
 have e:((mag a b:Nat):Int)=(a.natAbs:Int)*(b.natAbs:Int):=Int.natCast_mul _ _
 rw[e]
 unfold sgn
 by_cases h1:a<0 <;> by_cases h2:b<0
 ·have x:(a.natAbs:Int) = -a:=by omega
  have y:(b.natAbs:Int) = -b:=by omega
  rw[x,y]
  simp[h1,h2,Int.neg_mul,Int.mul_neg,Int.neg_neg]
 ·have x:(a.natAbs:Int) = -a:=by omega
  have y:(b.natAbs:Int)=b:=by omega
  rw[x,y]
  simp[h1,h2,Int.neg_mul,Int.mul_neg,Int.neg_neg]
 ·have x:(a.natAbs:Int)=a:=by omega
  have y:(b.natAbs:Int) = -b:=by omega
  rw[x,y]
  simp[h1,h2,Int.neg_mul,Int.mul_neg,Int.neg_neg]
 ·have x:(a.natAbs:Int)=a:=by omega
  have y:(b.natAbs:Int)=b:=by omega
  rw[x,y]
  simp[h1,h2,Int.neg_mul,Int.mul_neg,Int.neg_neg]
def minusA (s:Bool) (m:Nat) (t:Bool) (n:Nat):Nat:=if s≠t then m+n else if n≤m then m-n else n-m
theorem minus_is (a b c d:Int):minusA (sgn a b) (mag a b) (sgn c d) (mag c d)=(a*b-c*d).natAbs:=by
 rw[prod_val a b,prod_val c d]
 generalize mag a b=m
 generalize mag c d=n
 unfold minusA
 cases sgn a b <;> cases sgn c d <;> simp <;> (try split) <;> omega
end Tk
namespace Tk

def ltL:List Nat→List Nat→Bool
 | _,[]=>false
 | [],_::_=>true
 | a::s,b::t=>if a=b then ltL s t else decide (a<b)
theorem ltL_irrefl:∀ s,ltL s s=false
 | []=>rfl
 | a::s=>by rw[ltL,if_pos rfl];exact ltL_irrefl s
theorem ltL_trans:∀ s t u,ltL s t=true→ltL t u=true→ltL s u=true
 | _,[],_,h,_=>by cases ‹List Nat› <;> simp[ltL] at h
 | s,b::t,[],_,h=>by simp[ltL] at h
 | [],b::t,c::u,_,_=>rfl
 | a::s,b::t,c::u,h1,h2=>by
  rw[ltL] at h1 h2 ⊢
  by_cases e1:a=b
  ·subst e1
   rw[if_pos rfl] at h1
   by_cases e2:a=c
   ·subst e2;rw[if_pos rfl] at h2 ⊢;exact ltL_trans s t u h1 h2
   ·rw[if_neg e2] at h2 ⊢;exact h2
  ·rw[if_neg e1] at h1
   by_cases e2:b=c
   ·subst e2;rw[if_neg e1];exact h1
   ·rw[if_neg e2] at h2
    have g1:=of_decide_eq_true h1
    have g2:=of_decide_eq_true h2
    rw[if_neg (by omega)]
    exact decide_eq_true (by omega)
theorem ltL_total:∀ s t,s=t∨ltL s t=true∨ltL t s=true
 | [],[]=>Or.inl rfl
 | [],b::t=>Or.inr (Or.inl rfl)
 | a::s,[]=>Or.inr (Or.inr rfl)
 | a::s,b::t=>by
  by_cases e:a=b
  ·subst e
   rcases ltL_total s t with h|h|h
   ·exact Or.inl (by rw[h])
   ·exact Or.inr (Or.inl (by rw[ltL,if_pos rfl];exact h))
   ·exact Or.inr (Or.inr (by rw[ltL,if_pos rfl];exact h))
  ·rcases Nat.lt_or_ge a b with g|g
   ·exact Or.inr (Or.inl (by rw[ltL,if_neg e];exact decide_eq_true g))
   ·exact Or.inr (Or.inr (by rw[ltL,if_neg (fun h=>e h.symm)];exact decide_eq_true (by omega)))
theorem ltL_asymm (s t:List Nat) (h:ltL s t=true):ltL t s=false:=by
 cases g:ltL t s
 ·rfl
 ·have:=ltL_trans _ _ _ h g
  rw[ltL_irrefl] at this
  cases this
def Ord (l:List (List Nat)):Prop:=l.Pairwise fun s t=>ltL s t=true
theorem ord_uniq:∀ {l m:List (List Nat)},Ord l→Ord m→(∀ s,s∈l↔s∈m)→l=m
 | [],[],_,_,_=>rfl
 | [],b::m,_,_,h=>by have:=(h b).2 (by simp);cases this
 | a::l,[],_,_,h=>by have:=(h a).1 (by simp);cases this
 | a::l,b::m,h1,h2,h=>by
  have p1:=List.pairwise_cons.1 h1
  have p2:=List.pairwise_cons.1 h2
  have e:a=b:=by
   rcases List.mem_cons.1 ((h a).1 (by simp)) with e|g1
   ·exact e
   ·rcases List.mem_cons.1 ((h b).2 (by simp)) with e|g2
    ·exact e.symm
    ·have x:=p1.1 b g2
     have y:=p2.1 a g1
     rw[ltL_asymm _ _ x] at y
     cases y
  subst e
  congr 1
  refine ord_uniq p1.2 p2.2 fun s=>?_
  have na:∀ {k:List (List Nat)},(∀ t∈k,ltL a t=true)→a ∉ k:=fun hk ha=>by
   have:=hk a ha
   rw[ltL_irrefl] at this
   cases this
  have q:=h s
  rw[List.mem_cons,List.mem_cons] at q
  constructor
  ·intro hs
   rcases q.1 (Or.inr hs) with e|g
   ·subst e;exact absurd hs (na p1.1)
   ·exact g
  ·intro hs
   rcases q.2 (Or.inr hs) with e|g
   ·subst e;exact absurd hs (na p2.1)
   ·exact g
structure FindIs (sets:List (List Nat)) (count:Nat) (out:List (List Nat)):Prop where
 ord:Ord out
 mem:∀ s,s∈out↔s∈sets∧count≤s.length ∧ ∀ b∈sets,(∀ x∈s,x∈b)→b=s
theorem FindIs.uniq {sets:List (List Nat)} {count:Nat} {l m:List (List Nat)} (h:FindIs sets count l) (g:FindIs sets count m):l=m :=
 ord_uniq h.ord g.ord fun s=>(h.mem s).trans (g.mem s).symm
def Inc (l:List Nat):Prop:=l.Pairwise (· < ·)
theorem inc_filter (n:Nat) (f:Nat→Bool):Inc ((List.range n).filter f):=List.Pairwise.filter _ List.pairwise_lt_range
theorem inc_ext:∀ {l m:List Nat},Inc l→Inc m→(∀ x,x∈l↔x∈m)→l=m
 | [],[],_,_,_=>rfl
 | [],b::m,_,_,h=>by have:=(h b).2 (by simp);cases this
 | a::l,[],_,_,h=>by have:=(h a).1 (by simp);cases this
 | a::l,b::m,h1,h2,h=>by
  have p1:=List.pairwise_cons.1 h1
  have p2:=List.pairwise_cons.1 h2
  have e:a=b:=by
   rcases List.mem_cons.1 ((h a).1 (by simp)) with e|g1
   ·exact e
   ·rcases List.mem_cons.1 ((h b).2 (by simp)) with e|g2
    ·exact e.symm
    ·have x:=p1.1 b g2
     have y:=p2.1 a g1
     omega
  subst e
  congr 1
  refine inc_ext p1.2 p2.2 fun s=>?_
  have q:=h s
  rw[List.mem_cons,List.mem_cons] at q
  constructor
  ·intro hs
   rcases q.1 (Or.inr hs) with e|g
   ·subst e;have:=p1.1 s hs;omega
   ·exact g
  ·intro hs
   rcases q.2 (Or.inr hs) with e|g
   ·subst e;have:=p2.1 s hs;omega
   ·exact g
def gre:List Nat→List Nat→List Nat
 | [],_=>[]
 | x::a,[]=>x::a
 | x::a,y::b=>if x=y then gre a b else gre (x::a) b
theorem gre_part:∀ (b a:List Nat),Inc a→Inc b→(gre a b = [] ↔ ∀ x∈a,x∈b)
 | b,[],_,_=>by simp[gre]
 | [],x::a,_,_=>by
  rw[gre]
  constructor
  ·intro h
   cases h
  ·intro h
   have:=h x (by simp)
   cases this
 | y::b,x::a,ha,hb=>by
  have p1:=List.pairwise_cons.1 ha
  have p2:=List.pairwise_cons.1 hb
  rw[gre]
  by_cases e:x=y
  ·subst e
   rw[if_pos rfl,gre_part b a p1.2 p2.2]
   constructor
   ·intro h z hz
    rcases List.mem_cons.1 hz with e|g
    ·rw[e];simp
    ·exact List.mem_cons_of_mem _ (h z g)
   ·intro h z hz
    rcases List.mem_cons.1 (h z (List.mem_cons_of_mem _ hz)) with e|g
    ·have:=p1.1 z hz;omega
    ·exact g
  ·rw[if_neg e,gre_part b (x::a) ha p2.2]
   constructor
   ·intro h z hz;exact List.mem_cons_of_mem _ (h z hz)
   ·intro h z hz
    have hx:x∈b:=by
     rcases List.mem_cons.1 (h x (by simp)) with g|g
     ·exact absurd g e
     ·exact g
    have yx:=p2.1 x hx
    rcases List.mem_cons.1 (h z hz) with g|g
    ·rcases List.mem_cons.1 hz with g2|g2
     ·omega
     ·have:=p1.1 z g2;omega
    ·exact g
theorem len_part {a b:List Nat} (ha:Inc a) (hb:Inc b) (h:∀ x∈a,x∈b):a.length≤b.length∧(a.length=b.length→a=b):=by
 have sub:∀ (b a:List Nat),Inc a→Inc b→(∀ x∈a,x∈b)→a.Sublist b:=by
  intro b
  induction b with
  | nil =>
   intro a _ _ h
   cases a with
   | nil=>exact List.Sublist.slnil
   | cons x a=>have:=h x (by simp);cases this
  | cons y b ih =>
   intro a ha hb h
   cases a with
   | nil=>exact List.nil_sublist _
   | cons x a =>
    have p1:=List.pairwise_cons.1 ha
    have p2:=List.pairwise_cons.1 hb
    by_cases e:x=y
    ·subst e
     refine List.Sublist.cons_cons _ (ih a p1.2 p2.2 fun z hz=>?_)
     rcases List.mem_cons.1 (h z (List.mem_cons_of_mem _ hz)) with e|g
     ·have:=p1.1 z hz;omega
     ·exact g
    ·refine List.Sublist.cons _ (ih (x::a) ha p2.2 fun z hz=>?_)
     have hx:x∈b:=by
      rcases List.mem_cons.1 (h x (by simp)) with g|g
      ·exact absurd g e
      ·exact g
     have yx:=p2.1 x hx
     rcases List.mem_cons.1 (h z hz) with g|g
     ·rcases List.mem_cons.1 hz with g2|g2
      ·omega
      ·have:=p1.1 z g2;omega
     ·exact g
 have s:=sub b a ha hb h
 exact⟨s.length_le,fun e=>s.eq_of_length e⟩
def larger (sets:List (List Nat)) (n m:Nat):Bool:=decide (sets[n]!.length<sets[m]!.length) || (decide (sets[m]!.length=sets[n]!.length) && decide (m<n))
def goodAt (sets:List (List Nat)) (count n:Nat):Bool:=decide (count≤sets[n]!.length) && (List.range sets.length).all fun m=>!(larger sets n m && decide (gre sets[n]! sets[m]! = []))
theorem good_iff {sets:List (List Nat)} {count n:Nat} (hs:∀ s∈sets,Inc s) (hn:n<sets.length) :
  goodAt sets count n=true↔count≤sets[n]!.length∧(∀ b∈sets,(∀ x∈sets[n]!,x∈b)→b=sets[n]!) ∧ ∀ m,m<n→sets[m]! ≠ sets[n]!:=by
 have gi:∀ m,m<sets.length→sets[m]! ∈ sets:=fun m hm=>by rw[getElem!_pos sets m hm];exact List.getElem_mem hm
 unfold goodAt
 rw[Bool.and_eq_true,decide_eq_true_iff,List.all_eq_true]
 constructor
 ·rintro ⟨h1,h2⟩
  refine⟨h1,fun b hb hx=>?_,fun m hm e=>?_⟩
  ·obtain⟨m,hm,rfl⟩:=List.getElem_of_mem hb
   have q:=h2 m (by simpa using hm)
   have e:sets[m]! = sets[m]:=getElem!_pos sets m hm
   rw[← e] at hx hb ⊢
   obtain⟨l1,l2⟩:=len_part (hs _ (gi n hn)) (hs _ hb) hx
   have gp:=(gre_part _ _ (hs _ (gi n hn)) (hs _ hb)).2 hx
   rw[gp] at q
   simp only[decide_true,Bool.and_true,Bool.not_eq_true',larger,Bool.or_eq_false_iff,decide_eq_false_iff_not] at q
   exact(l2 (by omega)).symm
  ·have q:=h2 m (by simp;omega)
   have gp:=(gre_part _ _ (hs _ (gi n hn)) (hs _ (gi m (by omega)))).2 (by rw[e];exact fun x h=>h)
   rw[gp] at q
   simp[larger,e,hm] at q
 ·rintro ⟨h1,h2,h3⟩
  refine⟨h1,fun m hm=>?_⟩
  have hm:m<sets.length:=by simpa using hm
  by_cases g:gre sets[n]! sets[m]! = []
  ·have hx:=(gre_part _ _ (hs _ (gi n hn)) (hs _ (gi m hm))).1 g
   have e:=h2 _ (gi m hm) hx
   have nm:¬ m<n:=fun h=>h3 m h e
   simp[larger,e,nm]
  ·rw[decide_eq_false g,Bool.and_false];rfl
def insL (s:List Nat):List (List Nat)→List (List Nat)
 | []=>[s]
 | t::l=>if ltL s t=true then s::t::l else t::insL s l
theorem mem_insL (s x:List Nat):∀ l,x∈insL s l↔x=s∨x∈l
 | []=>by simp[insL]
 | t::l=>by
  rw[insL]
  split
  ·simp
  ·simp only[List.mem_cons,mem_insL s x l]
   constructor
   ·rintro (h|h|h)
    ·exact Or.inr (Or.inl h)
    ·exact Or.inl h
    ·exact Or.inr (Or.inr h)
   ·rintro (h|h|h)
    ·exact Or.inr (Or.inl h)
    ·exact Or.inl h
    ·exact Or.inr (Or.inr h)
theorem ord_insL (s:List Nat):∀ l,Ord l→s ∉ l→Ord (insL s l)
 | [],_,_=>List.pairwise_singleton _ _
 | t::l,h,hs=>by
  have p:=List.pairwise_cons.1 h
  rw[insL]
  split
  ·rename_i g
   refine List.pairwise_cons.2 ⟨fun u hu=>?_,h⟩
   rcases List.mem_cons.1 hu with e|q
   ·rw[e];exact g
   ·exact ltL_trans _ _ _ g (p.1 u q)
  ·rename_i g
   refine List.pairwise_cons.2 ⟨fun u hu=>?_,ord_insL s l p.2 (fun q=>hs (List.mem_cons_of_mem _ q))⟩
   rcases(mem_insL s u l).1 hu with e|q
   ·subst e
    rcases ltL_total t u with e|e|e
    ·exact absurd (by rw[e];simp) hs
    ·exact e
    ·exact absurd e g
   ·exact p.1 u q
def refTo (sets:List (List Nat)) (count:Nat):Nat→List (List Nat)
 | 0=>[]
 | n+1=>if goodAt sets count n=true then insL sets[n]! (refTo sets count n) else refTo sets count n
theorem refTo_is {sets:List (List Nat)} {count:Nat} (hs:∀ s∈sets,Inc s):∀ n,n≤sets.length→Ord (refTo sets count n) ∧ ∀ s,s∈refTo sets count n ↔ ∃ i,i<n∧s=sets[i]! ∧ goodAt sets count i=true
 | 0,_=>⟨List.Pairwise.nil,fun s=>by simp[refTo]⟩
 | n+1,h=>by
  obtain⟨h1,h2⟩:=refTo_is hs n (by omega)
  rw[refTo]
  split
  ·rename_i g
   have ne:sets[n]! ∉ refTo sets count n:=fun q=>by
    obtain⟨i,hi,e, -⟩:=(h2 _).1 q
    exact((good_iff hs (by omega)).1 g).2.2 i hi e.symm
   refine⟨ord_insL _ _ h1 ne,fun s=>?_⟩
   rw[mem_insL,h2]
   constructor
   ·rintro (e|⟨i,a,b,c⟩)
    ·exact⟨n,by omega,e,g⟩
    ·exact⟨i,by omega,b,c⟩
   ·rintro ⟨i,a,b,c⟩
    by_cases e:i=n
    ·subst e;exact Or.inl b
    ·exact Or.inr ⟨i,by omega,b,c⟩
  ·rename_i g
   refine⟨h1,fun s=>?_⟩
   rw[h2]
   constructor
   ·rintro ⟨i,a,b,c⟩;exact⟨i,by omega,b,c⟩
   ·rintro ⟨i,a,b,c⟩
    by_cases e:i=n
    ·subst e;exact absurd c g
    ·exact⟨i,by omega,b,c⟩
theorem ref_find {sets:List (List Nat)} {count:Nat} (hs:∀ s∈sets,Inc s):FindIs sets count (refTo sets count sets.length):=by
 obtain⟨h1,h2⟩:=refTo_is (count:=count) hs sets.length (Nat.le_refl _)
 refine⟨h1,fun s=>?_⟩
 rw[h2]
 constructor
 ·rintro ⟨i,a,rfl,g⟩
  have q:=(good_iff hs a).1 g
  exact⟨by rw[getElem!_pos sets i a];exact List.getElem_mem a,q.1,q.2.1⟩
 ·rintro ⟨a,b,c⟩
  -- the first place where it lies
  have fst:∀ (l:List (List Nat)),s∈l → ∃ i,i<l.length∧s=l[i]! ∧ ∀ m,m<i→l[m]! ≠ s:=by
   intro l
   induction l with
   | nil=>intro h;cases h
   | cons x l ih =>
    intro h
    by_cases e:x=s
    ·exact⟨0,by simp,by simp[e],fun m hm=>absurd hm (Nat.not_lt_zero _)⟩
    ·obtain⟨i,p,q,r⟩:=ih (by rcases List.mem_cons.1 h with g|g;exact absurd g.symm e;exact g)
     refine⟨i+1,by simp;omega,by simpa using q,fun m hm=>?_⟩
     cases m with
     | zero=>simpa using e
     | succ m=>simpa using r m (by omega)
  obtain⟨i,p,q,r⟩:=fst sets a
  refine⟨i,p,q,(good_iff hs p).2 ?_⟩
  rw[← q]
  exact⟨b,c,r⟩
def bitsL (x:Nat):List Nat:=(List.range 9).filter x.testBit
theorem mem_bits {x k:Nat}:k∈bitsL x↔k<9∧x.testBit k=true:=by simp[bitsL]
theorem inc_bits (x:Nat):Inc (bitsL x):=inc_filter 9 _
theorem bit_high {x k:Nat} (h:x<512) (hk:9≤k):x.testBit k=false:=Nat.testBit_lt_two_pow (Nat.lt_of_lt_of_le h (Nat.le_trans (by decide) (Nat.pow_le_pow_right (by decide) hk)))
theorem bits_inj {x y:Nat} (hx:x<512) (hy:y<512) (h:bitsL x=bitsL y):x=y:=by
 apply Nat.eq_of_testBit_eq
 intro k
 rcases Nat.lt_or_ge k 9 with hk|hk
 ·have a:=mem_bits (x:=x) (k:=k)
  have b:=mem_bits (x:=y) (k:=k)
  rw[h] at a
  have:=a.symm.trans b
  simp only[hk,true_and] at this
  exact Bool.eq_iff_iff.2 this
 ·rw[bit_high hx hk,bit_high hy hk]
def inM (x y:Nat):Bool:=decide (∀ k∈bitsL x,k∈bitsL y)
def maxTo (M:List Nat):List Nat→List Nat→List Nat
 | out,[]=>out
 | out,a::l=>maxTo M (if out.contains a || M.any (fun b=>a != b && inM a b) then out else out ++ [a]) l
theorem maxTo_is (M:List Nat):∀ (l out:List Nat),out.Nodup→(maxTo M out l).Nodup ∧ ∀ x,x∈maxTo M out l↔x∈out∨(x∈l ∧ ∀ b∈M,x≠b→inM x b=false)
 | [],out,h=>⟨h,fun x=>by simp[maxTo]⟩
 | a::l,out,h=>by
  rw[maxTo]
  by_cases g1:a∈out
  ·have e:(out.contains a || M.any fun b=>a != b && inM a b)=true:=by simp[g1]
   rw[if_pos e]
   obtain⟨p,q⟩:=maxTo_is M l out h
   refine⟨p,fun x=>(q x).trans ?_⟩
   constructor
   ·rintro (r|⟨r,s⟩)
    ·exact Or.inl r
    ·exact Or.inr ⟨List.mem_cons_of_mem _ r,s⟩
   ·rintro (r|⟨r,s⟩)
    ·exact Or.inl r
    ·rcases List.mem_cons.1 r with e|r
     ·rw[e];exact Or.inl g1
     ·exact Or.inr ⟨r,s⟩
  ·by_cases g2:∃ b∈M,a≠b∧inM a b=true
   ·obtain⟨b,hb,hn,hi⟩:=g2
    have e:(out.contains a || M.any fun b=>a != b && inM a b)=true:=by
     rw[Bool.or_eq_true,List.any_eq_true]
     exact Or.inr ⟨b,hb,by simp[hn,hi]⟩
    rw[if_pos e]
    obtain⟨p,q⟩:=maxTo_is M l out h
    refine⟨p,fun x=>(q x).trans ?_⟩
    constructor
    ·rintro (r|⟨r,s⟩)
     ·exact Or.inl r
     ·exact Or.inr ⟨List.mem_cons_of_mem _ r,s⟩
    ·rintro (r|⟨r,s⟩)
     ·exact Or.inl r
     ·rcases List.mem_cons.1 r with e|r
      ·have:=s b hb (by rw[e];exact hn)
       rw[e,hi] at this;cases this
      ·exact Or.inr ⟨r,s⟩
   ·have e:¬ (out.contains a || M.any fun b=>a != b && inM a b)=true:=by
     rw[Bool.or_eq_true,List.any_eq_true]
     rintro (r|⟨b,hb,r⟩)
     ·exact g1 (by simpa using r)
     ·exact g2 ⟨b,hb,by simpa using r⟩
    rw[if_neg e]
    have h':(out ++ [a]).Nodup:=by
     rw[List.nodup_append]
     refine⟨h,by simp,fun x hx y hy=>?_⟩
     rw[List.mem_singleton.1 hy]
     rintro rfl
     exact g1 hx
    obtain⟨p,q⟩:=maxTo_is M l (out ++ [a]) h'
    refine⟨p,fun x=>(q x).trans ?_⟩
    rw[List.mem_append,List.mem_singleton,List.mem_cons]
    constructor
    ·rintro ((r|r)|⟨r,s⟩)
     ·exact Or.inl r
     ·refine Or.inr ⟨Or.inl r,fun b hb hn=>?_⟩
      cases hi:inM x b
      ·rfl
      ·exact absurd ⟨b,hb,by rw[← r];exact hn,by rw[← r];exact hi⟩ g2
     ·exact Or.inr ⟨Or.inr r,s⟩
    ·rintro (r|⟨r|r,s⟩)
     ·exact Or.inl (Or.inl r)
     ·exact Or.inl (Or.inr r)
     ·exact Or.inr ⟨r,s⟩
def keepL (M:List Nat) (count:Nat):List (List Nat):=((maxTo M [] M).map bitsL).filter fun s=>decide (count≤s.length)
theorem prog_find {M:List Nat} {count:Nat} (hM:∀ x∈M,x<512) {out:List (List Nat)} (hp:out.Perm (keepL M count)) (ho:out.Pairwise fun s t=>ltL t s=false):FindIs (M.map bitsL) count out:=by
 obtain⟨nd,mm⟩:=maxTo_is M M [] List.nodup_nil
 have m5:∀ x∈maxTo M [] M,x<512:=fun x hx=>by
  rcases(mm x).1 hx with h|h
  ·cases h
  ·exact hM x h.1
 have nd2:(keepL M count).Nodup:=by
  refine List.Pairwise.filter _ (List.pairwise_map.2 ?_)
  refine nd.imp_of_mem fun {a b} ha hb hn e=>hn ?_
  exact bits_inj (m5 a ha) (m5 b hb) e
 have nd3:out.Nodup:=(hp.nodup_iff).2 nd2
 refine⟨?_,fun s=>?_⟩
 ·refine List.Pairwise.imp (R:=fun s t=>ltL t s=false∧s≠t) (fun {s t} h=>?_) (ho.and nd3)
  rcases ltL_total s t with e|e|e
  ·exact absurd e h.2
  ·exact e
  ·rw[h.1] at e;cases e
 ·rw[hp.mem_iff]
  unfold keepL
  rw[List.mem_filter,List.mem_map,decide_eq_true_iff]
  constructor
  ·rintro ⟨⟨x,hx,rfl⟩,hc⟩
   rcases(mm x).1 hx with h|⟨h1,h2⟩
   ·cases h
   ·refine⟨List.mem_map.2 ⟨x,h1,rfl⟩,hc,fun b hb hs=>?_⟩
    obtain⟨y,hy,rfl⟩:=List.mem_map.1 hb
    by_cases e:x=y
    ·rw[e]
    ·have:=h2 y hy e
     unfold inM at this
     exact absurd hs (of_decide_eq_false this)
  ·rintro ⟨hs,hc,hm⟩
   obtain⟨x,hx,rfl⟩:=List.mem_map.1 hs
   refine⟨⟨x,(mm x).2 (Or.inr ⟨hx,fun b hb hn=>?_⟩),rfl⟩,hc⟩
   unfold inM
   refine decide_eq_false fun h=>hn ?_
   have:=hm (bitsL b) (List.mem_map.2 ⟨b,hb,rfl⟩) h
   exact(bits_inj (hM b hb) (hM x hx) this).symm
end Tk
namespace Ap
open Go.RowKit Lw

def numL (l:List UInt8):Int:=l.foldl (fun n c=>10*n+((c.toNat:Int)-48)) 0
def allD (l:List UInt8):Prop:=∀ c∈l,48≤(c.toNat:Int)∧(c.toNat:Int)≤57
instance (l:List UInt8):Decidable (allD l):=by unfold allD;infer_instance
def numV (l:List UInt8):Int:=if allD l then numL l else -1
theorem numL_snoc (l:List UInt8) (c:UInt8):numL (l ++ [c])=10*numL l+((c.toNat:Int)-48):=by simp[numL]
theorem allD_snoc {l:List UInt8} {c:UInt8} (h:allD l) (h1:48≤(c.toNat:Int)) (h2:(c.toNat:Int)≤57):allD (l ++ [c]):=fun x hx=>by
 rcases List.mem_append.1 hx with g|g
 ·exact h x g
 ·have:=List.mem_singleton.1 g;subst this;exact⟨h1,h2⟩
theorem take_snoc (s:ByteArray) (k:Nat) (h:k<s.size):s.data.toList.take (k+1)=s.data.toList.take k ++ [s[k]]:=by
 rw[List.take_succ_eq_append_getElem (by simpa using h)];rfl
theorem take_all (s:ByteArray) (k:Nat) (h:¬ k<s.size):s.data.toList.take k=s.data.toList:=List.take_of_length_le (by simp;omega)
theorem numL_bd (l:List UInt8):∀ k,k≤l.length→allD (l.take k)→0≤numL (l.take k)∧numL (l.take k)<10 ^ k
 | 0,_,_=>by simp[numL]
 | k+1,hk,h=>by
  have e:l.take (k+1)=l.take k ++ [l[k]]:=List.take_succ_eq_append_getElem (by omega)
  rw[e] at h ⊢
  have ih:=numL_bd l k (by omega) (fun x hx=>h x (List.mem_append_left _ hx))
  have hc:=h l[k] (List.mem_append_right _ (List.mem_singleton.2 rfl))
  rw[numL_snoc,Int.pow_succ]
  omega
theorem byte_bd (b:UInt8):0≤(b.toNat:Int)∧(b.toNat:Int)<256:=by have:=b.toNat_lt;omega
end Ap
namespace Ap
open Go.RowKit Lw

def tenI (k:Nat):Int:=(10 ^ k:Nat)
theorem tenI_s (k:Nat):tenI (k+1)=tenI k*10:=by unfold tenI;rw[Nat.pow_succ];omega
end Ap
end Go.Proofs.YtdnogmanbdgadaaGreatDoor
namespace Go.Proofs
open Go.Shelf
def Tryz.laysPu14_ren:Go.Shelf.Ren:=⟨fun|14=>200|16=>226|17=>227|19=>239|20=>240|21=>241|22=>242|23=>243|24=>244|25=>250|27=>252|26=>251|28=>254|29=>255|30=>256|31=>257|32=>258|33=>259|35=>112|34=>260|36=>261|37=>262|38=>263|39=>264|40=>70|n=>n,fun|9=>9|3=>3|22=>80|24=>253|25=>254|4=>4|34=>281|5=>5|36=>98|37=>283|0=>0|39=>284|21=>21|44=>293|47=>297|50=>300|48=>298|2=>2|52=>302|55=>304|59=>307|60=>170|20=>20|61=>308|65=>309|66=>160|67=>310|n=>n,fun|0=>2|1=>3|2=>5|3=>6|4=>0|n=>n⟩
theorem Tryz.laysPu14:Go.Proofs.LaysPu.n14 Tryz.prog Tryz.laysPu14_ren:={
 mixed:=by kernel_rfl
 f14:=Tryz.func200.trans (congrArg some (by kernel_rfl))
 f16:=Tryz.func226.trans (congrArg some (by kernel_rfl))
 f17:=Tryz.func227.trans (congrArg some (by kernel_rfl))
 f19:=Tryz.func239.trans (congrArg some (by kernel_rfl))
 f20:=Tryz.func240.trans (congrArg some (by kernel_rfl))
 f21:=Tryz.func241.trans (congrArg some (by kernel_rfl))
 f22:=Tryz.func242.trans (congrArg some (by kernel_rfl))
 f23:=Tryz.func243.trans (congrArg some (by kernel_rfl))
 f24:=Tryz.func244.trans (congrArg some (by kernel_rfl))
 f25:=Tryz.func250.trans (congrArg some (by kernel_rfl))
 f26:=Tryz.func251.trans (congrArg some (by kernel_rfl))
 f27:=Tryz.func252.trans (congrArg some (by kernel_rfl))
 f28:=Tryz.func254.trans (congrArg some (by kernel_rfl))
 f29:=Tryz.func255.trans (congrArg some (by kernel_rfl))
 f30:=Tryz.func256.trans (congrArg some (by kernel_rfl))
 f31:=Tryz.func257.trans (congrArg some (by kernel_rfl))
 f32:=Tryz.func258.trans (congrArg some (by kernel_rfl))
 f33:=Tryz.func259.trans (congrArg some (by kernel_rfl))
 f34:=Tryz.func260.trans (congrArg some (by kernel_rfl))
 f35:=Tryz.func112.trans (congrArg some (by kernel_rfl))
 f36:=Tryz.func261.trans (congrArg some (by kernel_rfl))
 f37:=Tryz.func262.trans (congrArg some (by kernel_rfl))
 f38:=Tryz.func263.trans (congrArg some (by kernel_rfl))
 f39:=Tryz.func264.trans (congrArg some (by kernel_rfl))
 f40:=Tryz.func70.trans (congrArg some (by kernel_rfl))
 t0:=Tryz.underlying0
 a0:=Tryz.isAgg0
 z0:=Tryz.sizeOf0
 v0:=Tryz.zeroValue0
 i0:=by kernel_rfl
 t2:=Tryz.underlying2
 a2:=Tryz.isAgg2
 z2:=Tryz.sizeOf2
 v2:=Tryz.zeroValue2
 i2:=by kernel_rfl
 t3:=Tryz.underlying3
 a3:=Tryz.isAgg3
 z3:=Tryz.sizeOf3
 v3:=Tryz.zeroValue3
 i3:=by kernel_rfl
 t4:=Tryz.underlying4
 a4:=Tryz.isAgg4
 z4:=Tryz.sizeOf4
 v4:=Tryz.zeroValue4
 i4:=by kernel_rfl
 t5:=Tryz.underlying5
 a5:=Tryz.isAgg5
 z5:=Tryz.sizeOf5
 v5:=Tryz.zeroValue5
 i5:=by kernel_rfl
 t9:=Tryz.underlying9
 a9:=Tryz.isAgg9
 z9:=Tryz.sizeOf9
 v9:=Tryz.zeroValue9
 i9:=by kernel_rfl
 t20:=Tryz.underlying20
 a20:=Tryz.isAgg20
 z20:=Tryz.sizeOf20
 v20:=Tryz.zeroValue20
 i20:=by kernel_rfl
 t21:=Tryz.underlying21
 a21:=Tryz.isAgg21
 z21:=Tryz.sizeOf21
 v21:=Tryz.zeroValue21
 i21:=by kernel_rfl
 t22:=Tryz.underlying80
 a22:=Tryz.isAgg80
 z22:=Tryz.sizeOf80
 v22:=Tryz.zeroValue80
 i22:=by kernel_rfl
 t24:=Tryz.underlying253
 a24:=Tryz.isAgg253
 z24:=Tryz.sizeOf253
 v24:=Tryz.zeroValue253
 i24:=by kernel_rfl
 t25:=Tryz.underlying254
 a25:=Tryz.isAgg254
 z25:=Tryz.sizeOf254
 v25:=Tryz.zeroValue254
 i25:=by kernel_rfl
 t34:=Tryz.underlying281
 a34:=Tryz.isAgg281
 z34:=Tryz.sizeOf281
 v34:=Tryz.zeroValue281
 i34:=by kernel_rfl
 c34:=by kernel_rfl
 t36:=Tryz.underlying98
 a36:=Tryz.isAgg98
 z36:=Tryz.sizeOf98
 v36:=Tryz.zeroValue98
 i36:=by kernel_rfl
 t37:=Tryz.underlying283
 a37:=Tryz.isAgg283
 z37:=Tryz.sizeOf283
 v37:=Tryz.zeroValue283
 i37:=by kernel_rfl
 t39:=Tryz.underlying284
 a39:=Tryz.isAgg284
 z39:=Tryz.sizeOf284
 v39:=Tryz.zeroValue284
 i39:=by kernel_rfl
 t44:=Tryz.underlying293
 a44:=Tryz.isAgg293
 z44:=Tryz.sizeOf293
 v44:=Tryz.zeroValue293
 i44:=by kernel_rfl
 t47:=Tryz.underlying297
 a47:=Tryz.isAgg297
 z47:=Tryz.sizeOf297
 v47:=Tryz.zeroValue297
 i47:=by kernel_rfl
 t48:=Tryz.underlying298
 a48:=Tryz.isAgg298
 z48:=Tryz.sizeOf298
 v48:=Tryz.zeroValue298
 i48:=by kernel_rfl
 t50:=Tryz.underlying300
 a50:=Tryz.isAgg300
 z50:=Tryz.sizeOf300
 v50:=Tryz.zeroValue300
 i50:=by kernel_rfl
 t52:=Tryz.underlying302
 a52:=Tryz.isAgg302
 z52:=Tryz.sizeOf302
 v52:=Tryz.zeroValue302
 i52:=by kernel_rfl
 t55:=Tryz.underlying304
 a55:=Tryz.isAgg304
 z55:=Tryz.sizeOf304
 v55:=Tryz.zeroValue304
 i55:=by kernel_rfl
 t59:=Tryz.underlying307
 a59:=Tryz.isAgg307
 z59:=Tryz.sizeOf307
 v59:=Tryz.zeroValue307
 i59:=by kernel_rfl
 t60:=Tryz.underlying170
 a60:=Tryz.isAgg170
 z60:=Tryz.sizeOf170
 v60:=Tryz.zeroValue170
 i60:=by kernel_rfl
 t61:=Tryz.underlying308
 a61:=Tryz.isAgg308
 z61:=Tryz.sizeOf308
 t65:=Tryz.underlying309
 a65:=Tryz.isAgg309
 z65:=Tryz.sizeOf309
 v65:=Tryz.zeroValue309
 i65:=by kernel_rfl
 t66:=Tryz.underlying160
 a66:=Tryz.isAgg160
 z66:=Tryz.sizeOf160
 v66:=Tryz.zeroValue160
 i66:=by kernel_rfl
 t67:=Tryz.underlying310
 a67:=Tryz.isAgg310
 z67:=Tryz.sizeOf310
 v67:=Tryz.zeroValue310
 i67:=by kernel_rfl
 g0:=by kernel_rfl
 m0:=by kernel_rfl
 g1:=by kernel_rfl
 m1:=by kernel_rfl
 g2:=by kernel_rfl
 m2:=by kernel_rfl
 g3:=by kernel_rfl
 m3:=by kernel_rfl
 g4:=by kernel_rfl
 m4:=by kernel_rfl }
open Go.RowKit in
theorem Tryz.strconv_ParseUint_10_at16_ok (s:ByteArray) (hmax:s.size≤9223372036854775806) (u:Nat) (h:Lib.parseUintB 16 s.data.toList = .ok u) (w:World) :
  Calls Tryz.prog 200 #[.string s, .int .i64 10, .int .i64 16] w fun e w'=>e = .returned (.tuple #[.int .u64 u, .nilIface])∧(w'=w∨w'=Lib.bytesWorld w 5 s):=Any.strconv_ParseUint_10_at16_ok Tryz.laysPu14 s hmax u h w
open Go.RowKit in
theorem Tryz.strconv_ParseUint_10_at16_syntax (s:ByteArray) (hlim:s.size≤281474976710656) (h:Lib.parseUintB 16 s.data.toList=Lib.parseUintB 16 []) (ev:Value) (w:World) (hv:w.cell? ⟨2,0,none⟩=some ev) (hev:ev = .nilIface ∨ ∃ te pe,ev = .iface te pe) :
  Calls Tryz.prog 200 #[.string s, .int .i64 10, .int .i64 16] w fun e w'=>∃ N,e = .returned (.tuple #[.int .u64 0, .iface 284 (.pointer (some ⟨N,0,none⟩))])∧w.heap.size≤N∧w'.heap[N]? = some (.cells #[.string ⟨#[80,97,114,115,101,85,105,110,116]⟩, .string s,ev] 293 (0,0))∧Below w.heap.size w w':=Any.strconv_ParseUint_10_at16_syntax Tryz.laysPu14 s hlim h ev w hv hev
def Tryz.lays219_ren:Go.Shelf.Ren:=⟨fun|219=>189|217=>216|225=>217|224=>218|267=>219|266=>236|314=>237|n=>n,fun|9=>9|3=>3|4=>4|5=>5|46=>98|146=>275|51=>170|n=>n,fun|1=>1|n=>n⟩
theorem Tryz.lays219:Go.Proofs.Lays.n219 Tryz.prog Tryz.lays219_ren:={
 mixed:=by kernel_rfl
 f217:=Tryz.func216.trans (congrArg some (by kernel_rfl))
 f219:=Tryz.func189.trans (congrArg some (by kernel_rfl))
 f224:=Tryz.func218.trans (congrArg some (by kernel_rfl))
 f225:=Tryz.func217.trans (congrArg some (by kernel_rfl))
 f266:=Tryz.func236.trans (congrArg some (by kernel_rfl))
 f267:=Tryz.func219.trans (congrArg some (by kernel_rfl))
 f314:=Tryz.func237.trans (congrArg some (by kernel_rfl))
 t3:=Tryz.underlying3
 a3:=Tryz.isAgg3
 z3:=Tryz.sizeOf3
 v3:=Tryz.zeroValue3
 t4:=Tryz.underlying4
 a4:=Tryz.isAgg4
 z4:=Tryz.sizeOf4
 v4:=Tryz.zeroValue4
 t5:=Tryz.underlying5
 a5:=Tryz.isAgg5
 z5:=Tryz.sizeOf5
 v5:=Tryz.zeroValue5
 t9:=Tryz.underlying9
 a9:=Tryz.isAgg9
 z9:=Tryz.sizeOf9
 v9:=Tryz.zeroValue9
 t46:=Tryz.underlying98
 a46:=Tryz.isAgg98
 z46:=Tryz.sizeOf98
 v46:=Tryz.zeroValue98
 t51:=Tryz.underlying170
 a51:=Tryz.isAgg170
 z51:=Tryz.sizeOf170
 v51:=Tryz.zeroValue170
 t146:=Tryz.underlying275
 a146:=Tryz.isAgg275
 z146:=Tryz.sizeOf275
 v146:=Tryz.zeroValue275
 g1:=by kernel_rfl }
open Go.RowKit Go.Lib in
theorem Tryz.stringslite_Index_one (s:ByteArray) (c:UInt8) (w:World) :
  Calls Tryz.prog 189 #[.string s, .string ⟨#[c]⟩] w fun e w'=>e = .returned (.int .i64 (Lib.indexByte s.data.toList c))∧w'=w:=Any.stringslite_Index_one Tryz.lays219 s c w
def Tryz.lays207_ren:Go.Shelf.Ren:=⟨fun|207=>188|n=>n,fun|9=>9|4=>4|3=>3|n=>n,fun|n=>n⟩
theorem Tryz.lays207:Go.Proofs.Lays.n207 Tryz.prog Tryz.lays207_ren:={
 mixed:=by kernel_rfl
 f207:=Tryz.func188.trans (congrArg some (by kernel_rfl))
 t3:=Tryz.underlying3
 a3:=Tryz.isAgg3
 z3:=Tryz.sizeOf3
 v3:=Tryz.zeroValue3
 t4:=Tryz.underlying4
 a4:=Tryz.isAgg4
 z4:=Tryz.sizeOf4
 v4:=Tryz.zeroValue4
 t9:=Tryz.underlying9
 a9:=Tryz.isAgg9
 z9:=Tryz.sizeOf9
 v9:=Tryz.zeroValue9 }
open Go.RowKit Go.Lib in
theorem Tryz.stringslite_HasSuffix (s p:ByteArray) (w:World) (hs:s.size≤9223372036854775807) :
  Calls Tryz.prog 188 #[.string s, .string p] w fun e w'=>e = .returned (.bool (Lib.hasSuffix s.data.toList p.data.toList))∧w'=w:=Any.stringslite_HasSuffix Tryz.lays207 s p w hs
def Tryz.lays264_ren:Go.Shelf.Ren:=⟨fun|264=>98|n=>n,fun|53=>80|46=>98|n=>n,fun|n=>n⟩
theorem Tryz.lays264:Go.Proofs.Lays.n264 Tryz.prog Tryz.lays264_ren:={
 mixed:=by kernel_rfl
 f264:=Tryz.func98.trans (congrArg some (by kernel_rfl))
 t46:=Tryz.underlying98
 a46:=Tryz.isAgg98
 z46:=Tryz.sizeOf98
 v46:=Tryz.zeroValue98
 t53:=Tryz.underlying80
 a53:=Tryz.isAgg80
 z53:=Tryz.sizeOf80
 v53:=Tryz.zeroValue80 }
open Go.RowKit Go.Lib in
theorem Tryz.bits_Mul64 (x y:Nat) (hx:x<18446744073709551616) (hy:y<18446744073709551616) (w:World) :
  Calls Tryz.prog 98 #[.int .u64 x, .int .u64 y] w fun e w'=>e = .returned (.tuple #[.int .u64 ((x*y/18446744073709551616:Nat):Int), .int .u64 ((x*y % 18446744073709551616:Nat):Int)])∧w'=w:=Any.bits_Mul64 Tryz.lays264 x y hx hy w
end Go.Proofs
namespace Go.Proofs.YtdnogmanbdgadaaGreatDoor
namespace Ap
open Go.RowKit Lw

abbrev bt (s:ByteArray) (k:Nat):Int:=((s.get! k).toNat:Int)
def okAt (s p:ByteArray) (k:Nat):Prop:=(bt p k=48→48≤bt s k∧bt s k≤57)∧(¬ bt p k=48→bt s k=bt p k)
instance (s p:ByteArray) (k:Nat):Decidable (okAt s p k):=by unfold okAt;infer_instance
def likeTo (s p:ByteArray) (n:Nat):Prop:=∀ k,k<n→okAt s p k
instance (s p:ByteArray) (n:Nat):Decidable (likeTo s p n):=by unfold likeTo;infer_instance
def likeP (s p:ByteArray):Prop:=s.size=p.size∧likeTo s p s.size
instance (s p:ByteArray):Decidable (likeP s p):=by unfold likeP;infer_instance
theorem bt_of (s:ByteArray) (i:Nat) (h:i<s.size):bt s i=(s[i].toNat:Int):=by simp[bt,ByteArray.get!,getElem!_pos,h];rfl
theorem likeTo_s {s p:ByteArray} {k:Nat} (h:likeTo s p k) (g:okAt s p k):likeTo s p (k+1):=fun j hj=>by
 by_cases e:j=k
 ·subst e;exact g
 ·exact h j (by omega)
theorem ret_b {a b:Bool} (h:a=b):Ending.returned (.bool a) = .returned (.bool b):=by rw[h]
end Ap
namespace Ap
open Go.RowKit Lw

def ins (p:ByteArray):Nat→Bool
 | 0=>false
 | k+1=>decide (bt p k=48)
def grpL (s p:ByteArray):Nat→List Int
 | 0=>[]
 | k+1=>if bt p k=48 then(if ins p k=true then(grpL s p k).dropLast ++ [10*(grpL s p k).getLastD 0+(bt s k-48)] else grpL s p k ++ [bt s k-48]) else grpL s p k
def runAt (p:ByteArray):Nat→Nat
 | 0=>0
 | k+1=>if bt p k=48 then runAt p k+1 else 0
theorem grp_skip {s p:ByteArray} {k:Nat} (h:¬ bt p k=48):grpL s p (k+1)=grpL s p k:=by simp only[grpL];rw[if_neg h]
theorem grp_new {s p:ByteArray} {k:Nat} (h:bt p k=48) (g:ins p k=false):grpL s p (k+1)=grpL s p k ++ [bt s k-48]:=by
 simp only[grpL];rw[if_pos h,g];simp
theorem grp_on {s p:ByteArray} {k:Nat} {X:List Int} {v:Int} (h:bt p k=48) (g:ins p k=true) (e:grpL s p k=X ++ [v]):grpL s p (k+1)=X ++ [10*v+(bt s k-48)]:=by
 simp only[grpL];rw[if_pos h,if_pos g,e];simp
theorem grp_len (s p:ByteArray):∀ k,(grpL s p k).length≤k
 | 0=>by simp[grpL]
 | k+1=>by
  have ih:=grp_len s p k
  simp only[grpL]
  split
  ·split
   ·simp;omega
   ·simp;omega
  ·omega
theorem grp_last (s p:ByteArray):∀ k,likeTo s p k→ins p k=true → ∃ X v,grpL s p k=X ++ [v]∧0≤v∧v<10 ^ runAt p k∧1≤runAt p k
 | 0,_,h=>by cases h
 | k+1,hl,h=>by
  have hb:bt p k=48:=of_decide_eq_true h
  have hd:=(hl k (by omega)).1 hb
  have hr:runAt p (k+1)=runAt p k+1:=by simp only[runAt];rw[if_pos hb]
  cases g:ins p k with
  | false =>
   refine⟨_,_,grp_new hb g,by omega,?_,by omega⟩
   have:(1:Int)≤10 ^ runAt p k:=Int.pow_pos (by omega)
   rw[hr,Int.pow_succ]
   omega
  | true =>
   obtain⟨X,v,e,h0,h1,_⟩:=grp_last s p k (fun j hj=>hl j (by omega)) g
   refine⟨_,_,grp_on hb g e,by omega,?_,by omega⟩
   rw[hr,Int.pow_succ]
   omega
theorem ext_snoc (s:ByteArray) (i n:Nat) (h:i+n<s.size):(s.extract i (i+(n+1))).data.toList=(s.extract i (i+n)).data.toList ++ [s[i+n]]:=by
 have e:∀ j,(s.extract i (i+j)).data.toList=(s.data.toList.drop i).take j:=fun j=>by
  simp[ByteArray.data_extract,Array.toList_extract]
 rw[e,e,List.take_succ_eq_append_getElem (by simp;omega)]
 simp
 rfl
theorem grp_run (s p:ByteArray) (i:Nat) (h0:ins p i=false):∀ n,1≤n→i+n≤s.size→(∀ j,i≤j→j<i+n→bt p j=48)→grpL s p (i+n)=grpL s p i ++ [numL (s.extract i (i+n)).data.toList]
 | 0,h,_,_=>absurd h (by omega)
 | 1,_,hs,hp=>by
  rw[show i+1=i+(0+1) by omega,ext_snoc s i 0 (by omega),grp_new (by exact hp i (by omega) (by omega)) h0]
  have:=bt_of s (i+0) (by omega)
  simp[numL]
  simpa using this
 | n+2,_,hs,hp=>by
  have ih:=grp_run s p i h0 (n+1) (by omega) (by omega) fun j a b=>hp j a (by omega)
  have hi:ins p (i+(n+1))=true:=decide_eq_true (hp (i+n) (by omega) (by omega))
  have e:=grp_on (hp (i+(n+1)) (by omega) (by omega)) hi ih
  rw[show i+(n+2)=i+(n+1)+1 by omega,e,show i+(n+1)+1=i+(n+1+1) by omega,ext_snoc s i (n+1) (by omega),numL_snoc,← bt_of s (i+(n+1)) (by omega)]
end Ap
end Go.Proofs.YtdnogmanbdgadaaGreatDoor
