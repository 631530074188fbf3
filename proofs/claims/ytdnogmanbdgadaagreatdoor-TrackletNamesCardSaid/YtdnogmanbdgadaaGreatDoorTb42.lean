/-
  Lemmas and walks, texts joined: OSlice, TLLaid, TLTAny.
-/
import Derived.Deep.Slices
import Derived.Deep.Fields
import Derived.ChangeSame
import Derived.OpenShut
import Derived.Test.YtdnogmanbdgadaaGreatDoorTb08
import Derived.Test.YtdnogmanbdgadaaGreatDoorTb04
import Derived.Test.YtdnogmanbdgadaaGreatDoorTb20
import Derived.Test.YtdnogmanbdgadaaGreatDoorCards
import Derived.Test.YtdnogmanbdgadaaGreatDoorTb41
set_option linter.unusedSimpArgs false
set_option linter.unusedVariables false
set_option maxRecDepth 100000
set_option maxHeartbeats 40000000
namespace Go.Proofs.YtdnogmanbdgadaaGreatDoor
namespace Ow
open Go.RowKit Lw Go.Proofs.YtdnogmanbdgadaaGreatDoor.Op Go.ChangeShapes Go.WideShapes Go.Deep

section
variable {H : Type} {enc : TypeId × Value → H} {P : Program} {w : World} {base : Nat} {spare : Nat → Bool} {held : Bool}
theorem elem_fields {e:TypeId} {fs:Array Field} {fuel:Nat} {a:Addr} {cs:List Value} {x:DataW H×List MemPlace} (he:P.underlying e=some (.struct fs)) (hone:oneCellFields P fs=true) (hC:P.cellsOf e=fs.size)
  (hc:w.cells? base a (P.cellsOf e)=some cs) (ht:DataW.trod enc P w base spare held fuel e cs=some x) :
  ∃ n,∀ j f,fs[j]? = some f → ∃ v y,w.cell? (a.add j)=some v∧DataW.trod enc P w base spare held n f.type [v]=some y:=by
 rw[hC] at hc
 obtain⟨ys,n,_,hy,hlen,hyl,hf⟩:=DataW.trod_struct he ht
 obtain⟨_,hcl,hat⟩:=World.cells?_some hc
 refine⟨n,fun j f hj=>?_⟩
 obtain⟨ho,hk⟩:=hone_of hone j f hj
 have hjl:j<fs.size:=(Array.getElem?_eq_some_iff.1 hj).1
 have h1:=hf j f hj
 rw[ho,hk,List.drop_eq_getElem_cons (show j<cs.length by omega)] at h1
 have hys:ys[j]? = some (ys[j]'(by omega)):=List.getElem?_eq_getElem (by omega)
 exact⟨_,_,(hat j hjl).trans (List.getElem?_eq_getElem (by omega)),h1.trans hys⟩
end
theorem block_lt {w:World} {a:Addr} {v:Value} (h:w.cell? a=some v):a.block<w.heap.size∧a.spot=none:=by
 unfold World.cell? at h
 split at h
 ·rename_i c _ _ hh
  refine⟨(Array.getElem?_eq_some_iff.1 hh).1,?_⟩
  cases hs:a.spot with
  | none=>rfl
  | some s=>simp[hs] at h
 ·cases h
theorem one_of {a b:Value} (h:[a] = [b]):a=b:=by injection h
theorem add_none {b off k:Nat}:(⟨b,off,none⟩:Addr).add k=⟨b,off+k,none⟩:=Addr.add_mid b off k
theorem obs_elem {H:Type} {enc:TypeId×Value→H} {w:World} {base:Nat} {spare:Nat→Bool} {held:Bool} {m b off:Nat} {cs:List Value} {x:DataW H×List MemPlace}
  (hc:w.cells? base ⟨b,off,none⟩ (Tryz.prog.cellsOf 31)=some cs) (ht:DataW.trod enc Tryz.prog w base spare held m 31 cs=some x) :
  ∃ o:Ob,OB o∧w.rangeAt b off (obsC o):=by
 obtain⟨n,hf⟩:=elem_fields Tryz.underlying31 (by kernel_rfl) (by kernel_rfl) hc ht
 obtain⟨v0,y0,k0,t0⟩:=hf 0 _ rfl
 obtain⟨v1,y1,k1,t1⟩:=hf 1 _ rfl
 obtain⟨v2,y2,k2,t2⟩:=hf 2 _ rfl
 obtain⟨v3,y3,k3,t3⟩:=hf 3 _ rfl
 obtain⟨v4,y4,k4,t4⟩:=hf 4 _ rfl
 obtain⟨v5,y5,k5,t5⟩:=hf 5 _ rfl
 obtain⟨v6,y6,k6,t6⟩:=hf 6 _ rfl
 obtain⟨v7,y7,k7,t7⟩:=hf 7 _ rfl
 obtain⟨a0,e0,_,w0⟩:=DataW.trod_string Tryz.underlying9 t0
 obtain⟨a1,e1,_,w1⟩:=DataW.trod_string Tryz.underlying9 t1
 obtain⟨a2,e2,_,w2⟩:=DataW.trod_int Tryz.underlying2 t2
 obtain⟨a3,e3,_,w3⟩:=DataW.trod_int Tryz.underlying2 t3
 obtain⟨a4,e4,_,w4⟩:=DataW.trod_int Tryz.underlying2 t4
 obtain⟨a5,e5,_,w5⟩:=DataW.trod_int Tryz.underlying2 t5
 obtain⟨a6,e6,_,w6⟩:=DataW.trod_int Tryz.underlying3 t6
 obtain⟨a7,e7,_,w7⟩:=DataW.trod_int Tryz.underlying5 t7
 obtain rfl:=one_of e0
 obtain rfl:=one_of e1
 obtain rfl:=one_of e2
 obtain rfl:=one_of e3
 obtain rfl:=one_of e4
 obtain rfl:=one_of e5
 obtain rfl:=one_of e6
 obtain rfl:=one_of e7
 have b2:=bounds_i64 w2
 have b7:=bounds_u8 w7
 rw[add_none] at k0 k1 k2 k3 k4 k5 k6 k7
 refine⟨⟨a0,a1,a2,a3,a4,a5,a6,a7⟩,⟨b2.1,b2.2,b7.1,by show a7≤255;omega,w0,w1⟩,fun j v hv=>?_⟩
 match j,hv with
 | 0,hv=>cases hv;exact k0
 | 1,hv=>cases hv;exact k1
 | 2,hv=>cases hv;exact k2
 | 3,hv=>cases hv;exact k3
 | 4,hv=>cases hv;exact k4
 | 5,hv=>cases hv;exact k5
 | 6,hv=>cases hv;exact k6
 | 7,hv=>cases hv;exact k7
 | k+8,hv=>simp at hv
theorem obs_list {H:Type} {enc:TypeId×Value→H} {w:World} {base:Nat} {spare:Nat→Bool} {held:Bool} {x:Option Addr} {len cap:Nat} {d:DataW H} {p:List MemPlace}
  (h:DataW.Trod enc Tryz.prog w base spare held 22 (.slice x len cap) d p) :
  len≤9223372036854775807 ∧ ∃ l:List Ob,l.length=len∧SlA w x l∧OBs l∧(x=none→l = []∧cap=0):=by
 obtain⟨fuel,hf⟩:=h
 rcases open_slice Tryz.underlying22 hf with⟨hc,_⟩|⟨a,ln,cp,m,n,D,Pl,hcs,hb,hl,hmx,hmm,hx,hi⟩
 ·have:=one_of hc
  cases this
  exact⟨by omega,[],rfl,Or.inl rfl,fun i hi=>by simp at hi,fun _=>⟨rfl,rfl⟩⟩
 ·have:=one_of hcs
  cases this
  refine⟨by unfold maxLen at hmx;omega,?_⟩
  by_cases h0:len=0
  ·subst h0
   exact⟨[],rfl,Or.inl rfl,fun i hi=>by simp at hi,fun h=>by cases h⟩
  ·have hml:len≤m:=by rw[hmm];split <;> omega
   obtain⟨b,off,spot⟩:=a
   obtain⟨cs0,hc0,ht0⟩:=hi 0 (by omega)
   obtain⟨n0,hf0⟩:=elem_fields Tryz.underlying31 (by kernel_rfl) (by kernel_rfl) hc0 ht0
   obtain⟨v0,y0,k0,_⟩:=hf0 0 _ rfl
   have k0':w.cell? ⟨b,off,spot⟩=some v0:=by simpa [Addr.add] using k0
   obtain⟨hlt,hsp⟩:=block_lt k0'
   obtain rfl:spot=none:=hsp
   have hc8:Tryz.prog.cellsOf 31=8:=by kernel_rfl
   have key:∀ k,∃ o:Ob,k<len→OB o∧w.rangeAt b (off+k*8) (obsC o):=fun k=>by
    by_cases hk:k<len
    ·obtain⟨cs',hc',ht'⟩:=hi k (by omega)
     rw[add_none] at hc'
     obtain⟨o,ho⟩:=obs_elem hc' ht'
     rw[hc8] at ho
     exact⟨o,fun _=>ho⟩
    ·exact⟨zeroO,fun g=>absurd g hk⟩
   obtain⟨R,hR⟩:=Classical.axiomOfChoice key
   refine⟨(List.range len).map R,by simp,Or.inr ⟨b,off,rfl,hlt,fun i hi=>?_⟩,fun i hi=>?_,fun h=>by cases h⟩
   ·have hi':i<len:=by simpa using hi
    rw[List.getElem_map,List.getElem_range]
    exact(hR i hi').2
   ·have hi':i<len:=by simpa using hi
    rw[List.getElem_map,List.getElem_range]
    exact(hR i hi').1
end Ow
namespace Tw
open Go.RowKit Lw Ow Tk Go.Proofs.YtdnogmanbdgadaaGreatDoor.Ap Go.Proofs.YtdnogmanbdgadaaGreatDoor.Op Go.Proofs.YtdnogmanbdgadaaGreatDoor.Mp Go.Proofs.YtdnogmanbdgadaaGreatDoor.Mw Go.Proofs.YtdnogmanbdgadaaGreatDoor.At

theorem laidMet_tail {P:Program} {W:World} {x:String×DataW Unit} {rest:List (String×DataW Unit)} (h:laidMet P (x::rest) W):laidMet P rest W:=by
 obtain⟨n,d⟩:=x
 obtain⟨ps,⟨g',t',cs,fuel,p,q,hg',ht',hvar,hd,hr,hp⟩,hn,ha⟩:=h
 subst hp
 exact⟨q,hr,(List.nodup_append.1 hn).2.1,fun b off hm=>ha b off (List.mem_append_right _ hm)⟩
theorem err_one {enc:TypeId×Value→Unit} {W:World} {base:Nat} {sp:Nat→Bool} {fuel:Nat} {t:TypeId} {tys:Array (String×TypeId)} {v:Value} {y:DataW Unit×List MemPlace} (ht:Tryz.prog.underlying t=some (.interface tys)) (h:DataW.trod enc Tryz.prog W base sp false fuel t [v]=some y):v = .nilIface ∨ ∃ te pe,v = .iface te pe:=by
 cases fuel with
 | zero=>simp[DataW.trod] at h
 | succ n =>
  cases v with
  | nilIface=>exact Or.inl rfl
  | iface te pe=>exact Or.inr ⟨te,pe,rfl⟩
  | _=>simp[DataW.trod,ht] at h
theorem err_cell {enc:TypeId×Value→Unit} {W:World} {base:Nat} {sp:Nat→Bool} {fuel:Nat} {t:TypeId} {tys:Array (String×TypeId)} {cs:List Value} {y:DataW Unit×List MemPlace} (ht:Tryz.prog.underlying t=some (.interface tys)) (h:DataW.trod enc Tryz.prog W base sp false fuel t cs=some y) :
  ∃ v,cs = [v]∧(v = .nilIface ∨ ∃ te pe,v = .iface te pe):=by
 cases fuel with
 | zero=>simp[DataW.trod] at h
 | succ n =>
  match cs,h with
  | [],h=>simp[DataW.trod,ht] at h
  | [v],h =>
   exact⟨v,rfl,err_one ht h⟩
  | _::_::_,h=>simp[DataW.trod,ht] at h
theorem es_trk {W:World} (hL:laidMet Tryz.prog Rows.trackletTurnedRow.laid W):ES W:=by
 obtain⟨ps,⟨g',t',cs,fuel,p,q,hg',ht',hvar,hd,_,_⟩,_⟩:=laidMet_tail (laidMet_tail (laidMet_tail (laidMet_tail hL)))
 have hg:Tryz.prog.globalNamed "strconv.ErrSyntax" = some 2:=by kernel_rfl
 have hty:(Tryz.prog.globals[(2:Nat)]?).map (·.type)=some 253:=by kernel_rfl
 obtain rfl:=Option.some.inj (hg.symm.trans hg')
 obtain rfl:=Option.some.inj (hty.symm.trans ht')
 obtain⟨tys,hu⟩:∃ tys,Tryz.prog.underlying 253=some (.interface tys):=⟨_,Tryz.underlying253⟩
 obtain⟨v,hc,hv⟩:=err_cell hu hd
 have c:=World.var?_cell hg hvar 0
 have e0:cs[0]? = some v:=by
  rw[← Array.getElem?_toList,hc];rfl
 rw[e0] at c
 refine⟨?_,v,c,hv⟩
 rcases Nat.lt_or_ge 2 W.heap.size with h|h
 ·exact h
 ·exfalso
  unfold World.cell? at c
  rw[Array.getElem?_eq_none h] at c
  cases c
theorem db_trk {W:World} (hL:laidMet Tryz.prog Rows.trackletTurnedRow.laid W):DB W :=
 Lib.tabIs_of_head (t:=160) (e:=5) (n:=64) gDB (by kernel_rfl) (by kernel_rfl) (by kernel_rfl) (by kernel_rfl) (by kernel_rfl) (laidMet_tail hL)
end Tw
namespace Tw
open Go.RowKit Lw Ow Tk Go.Proofs.YtdnogmanbdgadaaGreatDoor.Op

theorem turned_any (x:Option Addr) (cap:Nat) (l:List Ob) (u:Rl) (c:Int) (w:World) (hE:ES w) (hD:DB w) (hl:SlA w x l) (hm:l.length≤9223372036854775807) (hb:OBs l) (hc:-9223372036854775808≤c∧c≤9223372036854775807) :
  Calls Tryz.prog 5 #[.slice x l.length cap,rlV u, .int .i64 c] w fun e w'=>e = .returned (.bool true)∧Below w.heap.size w w':=by
 by_cases h:9<l.length∨greatT l 9=true∨c < -1296000000000∨1296000000000<c
 ·exact turned_out x cap l u c w hE hD hl hm hb hc h
 ·have h9:l.length≤9:=Nat.le_of_not_lt fun q=>h (Or.inl q)
  have hg:greatT l 9=false:=by
   cases e:greatT l 9
   ·rfl
   ·exact absurd (Or.inr (Or.inl e)) h
  exact turned_main x cap l u c w hE hD hl hb h9 hg (Int.not_lt.1 fun q=>h (Or.inr (Or.inr (Or.inl q)))) (Int.not_lt.1 fun q=>h (Or.inr (Or.inr (Or.inr q))))
end Tw
end Go.Proofs.YtdnogmanbdgadaaGreatDoor
