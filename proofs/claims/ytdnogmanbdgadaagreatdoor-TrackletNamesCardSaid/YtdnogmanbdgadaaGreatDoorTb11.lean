/-
  Lemmas and walks, texts joined: TKOwn, TKCo, WPl, WLim, WTrim, WMade, WFrom.
-/
import Derived.OwnWalkIn
import Derived.LoopTactic
import Derived.WalkKit
import Derived.ChangeKeysEq
import Derived.Test.YtdnogmanbdgadaaGreatDoorTb08
import Derived.Test.YtdnogmanbdgadaaGreatDoorTb04
import Derived.Test.YtdnogmanbdgadaaGreatDoorTb05
set_option linter.unusedSimpArgs false
set_option linter.unusedVariables false
set_option maxRecDepth 100000
set_option maxHeartbeats 40000000
namespace Go.Proofs.YtdnogmanbdgadaaGreatDoor
namespace Tw
open Go.RowKit Lw Ow

section
variable {α : Type} {E : TypeId} {k : Nat} {enc : α → List Value}
def OwnG (E:TypeId) (k:Nat) (enc:α→List Value) (w:World) (B:Nat) (v:Value) (l:List α):Prop:=w.ownsRow B E k v l.length (l.flatMap enc)∧B≤w.heap.size
theorem flat_get (hk:∀ x,(enc x).length=k) {l:List α} {i j:Nat} {v:Value} (hi:i<l.length) (h:(enc l[i])[j]? = some v):(l.flatMap enc)[i*k+j]? = some v:=by
 have hj:j<k:=by
  have:=(List.getElem?_eq_some_iff.1 h).1
  rwa [hk] at this
 induction l generalizing i with
 | nil=>simp at hi
 | cons a l ih =>
  rw[List.flatMap_cons]
  match i,hi,h with
  | 0,_,h =>
   rw[Nat.zero_mul,Nat.zero_add,List.getElem?_append_left (by rw[hk];exact hj)]
   exact h
  | i+1,hi,h =>
   have hi':i<l.length:=by simpa using hi
   rw[List.getElem?_append_right (by rw[hk,Nat.succ_mul];omega),hk,show (i+1)*k+j-k=i*k+j by rw[Nat.succ_mul];omega]
   exact ih hi' (by simpa using h)
theorem OwnG.nil (w:World) (B:Nat) (h:B≤w.heap.size):OwnG E k enc w B (.slice none 0 0) []:=⟨World.ownsRow_nil _ _ _ _,h⟩
theorem OwnG.below {w w':World} {B:Nat} {v:Value} {l:List α} (h:OwnG E k enc w B v l) (hb:Below w.heap.size w w'):OwnG E k enc w' B v l:=⟨ownsRow_below h.1 hb,Nat.le_trans h.2 hb.size⟩
structure RowsG (k:Nat) (enc:α→List Value) (w:World) (A:Option Addr) (l:List α):Prop where
 row:∀ i (h:i<l.length),∃ g,A=some ⟨g,0,none⟩∧g<w.heap.size∧w.rangeAt g (i*k) (enc (l[i]'h))
theorem RowsG.below {w w':World} {A:Option Addr} {l:List α} (h:RowsG k enc w A l) (hb:Below w.heap.size w w'):RowsG k enc w' A l :=
 ⟨fun i hi=>by
  obtain⟨g,e,lt,r⟩:=h.row i hi
  exact⟨g,e,Nat.lt_of_lt_of_le lt hb.size,rangeAt_below r hb lt⟩⟩
theorem OwnG.form (hk:∀ x,(enc x).length=k) {w:World} {B:Nat} {v:Value} {l:List α} (h:OwnG E k enc w B v l):∃ A cap,v = .slice A l.length cap∧RowsG k enc w A l ∧ ∀ g o,A=some ⟨g,o,none⟩→B≤g:=by
 have hc:=fun (g:Nat) (hg:v.ownBlock=some g)=>h.1.cells hg
 rcases h.1.2 with⟨hv,hn⟩|⟨g,cap,cur,hv,hb,hh,r⟩
 ·have:l = []:=List.length_eq_zero_iff.1 hn
  subst this
  exact⟨none,0,hv,⟨fun i hi=>by simp at hi⟩,fun g o e=>by cases e⟩
 ·have lt:g<w.heap.size:=by
   rcases Nat.lt_or_ge g w.heap.size with h|h
   ·exact h
   ·rw[Array.getElem?_eq_none h] at hh;cases hh
  refine⟨_,cap,hv,⟨fun i hi=>⟨g,rfl,lt,fun j x hx=>?_⟩⟩,fun g' o e=>by cases e;exact hb⟩
  have e:=hc g (by rw[hv];rfl) (i*k+j) x (flat_get hk hi hx)
  rw[Addr.add_mid] at e
  rwa [Nat.zero_add] at e
theorem newsG {w:World} {b:Nat} {cs:List Value} (h:w.rangeAt b 0 cs):∀ j u,cs[j]? = some u→w.cell? ((⟨b,0,none⟩:Addr).add j)=some u:=fun j u hj=>by
 rw[Addr.add_mid];exact h j u hj
theorem wp_appG (T:TypeId) (z:Value) (bytes:Nat) (hinfo:(Tryz.prog.info? E).map (fun i=>(i.zero,i.size,i.bytes))=some (some z,k,bytes)) (hu:Tryz.prog.underlying T=some (.slice E)) (hz:z.cells.size=k) (h0:0<k) (hb9:bytes≤1000)
  (hk:∀ x,(enc x).length=k) (h1:∀ x,∀ u∈enc x,u.oneCell'=true)
  {ops:Array Oper} {rest:List Oper} {o:Oper} {a:Act} {Q:Exit→Act→World→Prop} (w:World) (hgd:o.guard=none) (s x:Operand)
  (ho:o.op = .call { callee:=.builtin .append,args:=#[s,x],argTypes:=#[T,T] })
  (B:Nat) (v:Value) (l:List α) (q:α) (hs:a.eval s=v) (hx:a.eval x = .slice (some ⟨w.heap.size,0,none⟩) 1 1) (hown:OwnG E k enc w B v l) (hl:l.length≤1000000)
  (h:∀ v' w',OwnG E k enc w' B v' (l ++ [q])→Below B w w'→wpList Tryz.prog ops Q rest (a.put o.dst v') w'):wpList Tryz.prog ops Q (o::rest) a (w.alloc (.cells (enc q).toArray E)):=by
 obtain⟨i0,hi,hz0,hz1,hz2⟩:=info_parts hinfo
 have ho':=hown.1.alloc (.cells (enc q).toArray E)
 have nw:=newsG (rangeAt_new w (enc q) E)
 have b1:Below B w (w.alloc (.cells (enc q).toArray E)):=(Below.refl _ _).alloc hown.2 _
 refine wpList_append_own _ hgd s x T ho B E i0 z k bytes hu hi hz0 hz1 hz2 hz h0 v l.length (l.flatMap enc) hs ho' ⟨w.heap.size,0,none⟩ 1 1 (enc q) hx (by rw[hk,Nat.one_mul]) nw (h1 q) (by unfold maxLen;omega) (Nat.le_trans (Nat.mul_le_mul (show l.length+1≤1000001 by omega) hb9) (by decide)) (Nat.le_trans hown.2 b1.size) ?_
 intro v' w' h1 h2 _
 have e:(l ++ [q]).flatMap enc=l.flatMap enc++enc q:=by simp
 have hb:Below B w w':=b1.trans ((Below.refl B _).grown h2 (Nat.le_trans hown.2 b1.size) (fun k hk=>(hown.1.lt k hk).1))
 refine h v' w' ⟨?_,Nat.le_trans hown.2 hb.size⟩ hb
 rw[e,List.length_append]
 exact h1
theorem wpIn_appG (T:TypeId) (z:Value) (bytes:Nat) (hinfo:(Tryz.prog.info? E).map (fun i=>(i.zero,i.size,i.bytes))=some (some z,k,bytes)) (hu:Tryz.prog.underlying T=some (.slice E)) (hz:z.cells.size=k) (h0:0<k) (hb9:bytes≤1000)
  (hk:∀ x,(enc x).length=k) (h1:∀ x,∀ u∈enc x,u.oneCell'=true)
  {F:Fence} {n:Nat} {ops:Array Oper} {rest:List Oper} {o:Oper} {a:Act} {Q:Exit→Act→World→Prop} (w:World) (hgd:o.guard=none) (s x:Operand)
  (ho:o.op = .call { callee:=.builtin .append,args:=#[s,x],argTypes:=#[T,T] })
  (B:Nat) (v:Value) (l:List α) (q:α) (hs:a.eval s=v) (hx:a.eval x = .slice (some ⟨w.heap.size,0,none⟩) 1 1) (hown:OwnG E k enc w B v l) (hl:l.length≤1000000)
  (h:∀ v' w',OwnG E k enc w' B v' (l ++ [q])→Below B w w'→(w.alloc (.cells (enc q).toArray E)).grownBy w' v.ownBlock→wpListIn F n Tryz.prog ops Q rest (a.put o.dst v') w'):wpListIn F n Tryz.prog ops Q (o::rest) a (w.alloc (.cells (enc q).toArray E)):=by
 obtain⟨i0,hi,hz0,hz1,hz2⟩:=info_parts hinfo
 have ho':=hown.1.alloc (.cells (enc q).toArray E)
 have nw:=newsG (rangeAt_new w (enc q) E)
 have b1:Below B w (w.alloc (.cells (enc q).toArray E)):=(Below.refl _ _).alloc hown.2 _
 refine wpListIn_append_own _ hgd s x T ho B E i0 z k bytes hu hi hz0 hz1 hz2 hz h0 v l.length (l.flatMap enc) hs ho' ⟨w.heap.size,0,none⟩ 1 1 (enc q) hx (by rw[hk,Nat.one_mul]) nw (h1 q) (by unfold maxLen;omega) (Nat.le_trans (Nat.mul_le_mul (show l.length+1≤1000001 by omega) hb9) (by decide)) (Nat.le_trans hown.2 b1.size) ?_
 intro v' w' h1 h2 _
 have e:(l ++ [q]).flatMap enc=l.flatMap enc++enc q:=by simp
 have hb:Below B w w':=b1.trans ((Below.refl B _).grown h2 (Nat.le_trans hown.2 b1.size) (fun k hk=>(hown.1.lt k hk).1))
 refine h v' w' ⟨?_,Nat.le_trans hown.2 hb.size⟩ hb h2
 rw[e,List.length_append]
 exact h1
end
/-! ### The elements -/
abbrev prE (p:Nat×Nat):List Value:=[.int .i64 (p.1:Int), .int .i64 (p.2:Int)]
theorem prE_one (p:Nat×Nat):∀ u∈prE p,u.oneCell'=true:=fun u hu=>by
 simp only[List.mem_cons,List.not_mem_nil,or_false] at hu
 rcases hu with rfl|rfl <;> rfl
abbrev inE (n:Nat):List Value:=[.int .i64 (n:Int)]
theorem info_in:(Tryz.prog.info? 3).map (fun i=>(i.zero,i.size,i.bytes))=some (some (.int .i64 0),1,8):=by kernel_rfl
theorem inE_one (p:Nat):∀ u∈inE p,u.oneCell'=true:=fun u hu=>by
 simp only[List.mem_cons,List.not_mem_nil,or_false] at hu
 subst hu;rfl
structure Sl where
 a:Option Addr
 n:Nat
 c:Nat
abbrev slE (s:Sl):List Value:=[.slice s.a s.n s.c]
theorem info_sl:(Tryz.prog.info? 29).map (fun i=>(i.zero,i.size,i.bytes))=some (some (.slice none 0 0),1,24):=by kernel_rfl
theorem slE_one (p:Sl):∀ u∈slE p,u.oneCell'=true:=fun u hu=>by
 simp only[List.mem_cons,List.not_mem_nil,or_false] at hu
 subst hu;rfl
abbrev mkE (x:Nat):List Value:=[.int .u64 (x:Int), .int .u64 0, .int .u64 0, .int .u64 0]
theorem info_mk:(Tryz.prog.info? 82).map (fun i=>(i.zero,i.size,i.bytes))=some (some (.agg #[.int .u64 0, .int .u64 0, .int .u64 0, .int .u64 0]),4,32):=by kernel_rfl
theorem mkE_one (p:Nat):∀ u∈mkE p,u.oneCell'=true:=fun u hu=>by
 simp only[List.mem_cons,List.not_mem_nil,or_false] at hu
 rcases hu with rfl|rfl|rfl|rfl <;> rfl
end Tw
namespace Tk
def cmpL:List Nat→List Nat→Int
 | [],[]=>0
 | [],_::_=>-1
 | _::_,[]=>1
 | a::s,b::t=>if a<b then -1 else if b<a then 1 else cmpL s t
theorem cmp_lt:∀ s t,decide (cmpL s t<0)=ltL s t
 | [],[]=>by simp[cmpL,ltL]
 | [],_::_=>by simp[cmpL,ltL]
 | _::_,[]=>by simp[cmpL,ltL]
 | a::s,b::t=>by
  rw[cmpL,ltL]
  by_cases h1:a<b
  ·have:¬ a=b:=by omega
   simp[h1,this]
  ·by_cases h2:b<a
   ·have:¬ a=b:=by omega
    simp[h1,h2,this]
   ·have:a=b:=by omega
    simp only[h1,h2,this,if_true,if_false]
    rw[if_neg (by omega),if_neg (by omega)]
    exact cmp_lt s t
theorem cmp_drop {s t:List Nat} {i:Nat} (hs:i<s.length) (ht:i<t.length):cmpL (s.drop i) (t.drop i)=if s[i]<t[i] then -1 else if t[i]<s[i] then 1 else cmpL (s.drop (i+1)) (t.drop (i+1)):=by
 rw[List.drop_eq_getElem_cons hs,List.drop_eq_getElem_cons ht,cmpL]
theorem cmp_end {s t:List Nat} {i:Nat} (hs:i<s.length) (ht:t.length≤i):cmpL (s.drop i) (t.drop i)=1:=by
 rw[List.drop_eq_getElem_cons hs,List.drop_eq_nil_of_le ht,cmpL]
theorem cmp_short {s t:List Nat} {i:Nat} (hs:s.length=i) (hi:i≤t.length):cmpL (s.drop i) (t.drop i)=if s.length<t.length then -1 else 0:=by
 subst hs
 rw[List.drop_length]
 by_cases h:s.length<t.length
 ·rw[List.drop_eq_getElem_cons h,cmpL,if_pos h]
 ·rw[List.drop_eq_nil_of_le (by omega),cmpL,if_neg h]
end Tk
namespace Tw
open Go.RowKit Lw Tk Ow

theorem nan_any (x:Nat) (w:World):Calls Tryz.prog 113 #[.int .i64 (x:Int)] w fun e w'=>e = .returned (.bool false)∧w'=w:=by
 go_enter Tryz.func113,Tryz.ntmps113
 go_wp2_with fail
 refine bodyPost_ret (results_tmp rfl _ _ _) rfl ⟨rfl,rfl⟩
theorem ccmp_any (x y:Nat) (w:World):Calls Tryz.prog 73 #[.int .i64 (x:Int), .int .i64 (y:Int)] w fun e w'=>e = .returned (.int .i64 (if x<y then -1 else if y<x then 1 else 0))∧w'=w:=by
 have h1:=nan_any x w
 have h2:=nan_any y w
 by_cases hxy:x<y
 ·have q:(x:Int)<(y:Int):=by omega
  rw[if_pos hxy]
  go_enter Tryz.func73,Tryz.ntmps73
  go_wp2_with (go_at_call 113;first|(refine h1.mono ?_;rintro e w2 ⟨rfl,rfl⟩)|(refine h2.mono ?_;rintro e w2 ⟨rfl,rfl⟩))
  refine bodyPost_ret (results_tmp rfl _ _ _) rfl ⟨rfl,rfl⟩
 ·have q:¬ (x:Int)<(y:Int):=by omega
  rw[if_neg hxy]
  by_cases hyx:y<x
  ·have q2:(y:Int)<(x:Int):=by omega
   rw[if_pos hyx]
   go_enter Tryz.func73,Tryz.ntmps73
   go_wp2_with (go_at_call 113;first|(refine h1.mono ?_;rintro e w2 ⟨rfl,rfl⟩)|(refine h2.mono ?_;rintro e w2 ⟨rfl,rfl⟩))
   refine bodyPost_ret (results_tmp rfl _ _ _) rfl ⟨rfl,rfl⟩
  ·have q2:¬ (y:Int)<(x:Int):=by omega
   rw[if_neg hyx]
   go_enter Tryz.func73,Tryz.ntmps73
   go_wp2_with (go_at_call 113;first|(refine h1.mono ?_;rintro e w2 ⟨rfl,rfl⟩)|(refine h2.mono ?_;rintro e w2 ⟨rfl,rfl⟩))
   refine bodyPost_ret (results_tmp rfl _ _ _) rfl ⟨rfl,rfl⟩
theorem scmp_any (A1 A2:Option Addr) (c1 c2:Nat) (s t:List Nat) (w:World) (h1:RowsG 1 inE w A1 s) (h2:RowsG 1 inE w A2 t) (hs:s.length≤1000000) (ht:t.length≤1000000) :
  Calls Tryz.prog 40 #[.slice A1 s.length c1, .slice A2 t.length c2] w fun e w'=>e = .returned (.int .i64 (cmpL s t))∧w'=w:=by
 have H1:=Lib.hid h1
 have H2:=Lib.hid h2
 clear h1 h2
 go_enter Tryz.func40,Tryz.ntmps40
 go_wp2_with fail
 go_loopw [11] (fun z wr=>∃ i:Nat,z = .int .i64 (i:Int)∧i≤s.length∧i≤t.length∧Hid (cmpL (s.drop i) (t.drop i)=cmpL s t)∧wr=w) (fun z _=>((s.length:Int)-intOf z).toNat)
 case atStart=>exact⟨0,rfl,by omega,by omega,Lib.hid rfl,rfl⟩
 case round =>
  obtain⟨i,rfl,hi,hit,EC,rfl⟩:=hrel
  have hii:IntKind.i64.wrap ((i:Int)+1)=((i+1:Nat):Int):=by rw[IntKind.wrap_i64];omega
  by_cases hlt:i<s.length
  ·obtain⟨g,rfl, -,hrow⟩:=H1.out.row i hlt
   have g0:wr.cell? ⟨g,i,none⟩=some (.int .i64 (s[i]:Int)):=by have:=hrow 0 _ rfl;rwa [Nat.mul_one,Nat.add_zero] at this
   by_cases hlt2:i<t.length
   ·obtain⟨g',rfl, -,hrow'⟩:=H2.out.row i hlt2
    have g1:wr.cell? ⟨g',i,none⟩=some (.int .i64 (t[i]:Int)):=by have:=hrow' 0 _ rfl;rwa [Nat.mul_one,Nat.add_zero] at this
    have EQ:=EC.out
    rw[cmp_drop hlt hlt2] at EQ
    clear hrow hrow' EC
    have hc:=ccmp_any s[i] t[i] wr
    generalize s[i]=a at *
    generalize t[i]=b at *
    by_cases hab:a<b
    ·rw[if_pos hab] at EQ hc
     have EQ:=Lib.hid EQ
     go_wp2_with (go_at_call 73;refine hc.mono ?_;rintro e w2 ⟨rfl,rfl⟩)
     refine bodyPost_ret (results_tmp rfl _ _ _) rfl ⟨?_,rfl⟩
     first|exact congrArg (fun z=>Ending.returned (.int .i64 z)) EQ.out|rfl
    ·rw[if_neg hab] at EQ hc
     by_cases hba:b<a
     ·rw[if_pos hba] at EQ hc
      have EQ:=Lib.hid EQ
      go_wp2_with (go_at_call 73;refine hc.mono ?_;rintro e w2 ⟨rfl,rfl⟩)
      refine bodyPost_ret (results_tmp rfl _ _ _) rfl ⟨?_,rfl⟩
      first|exact congrArg (fun z=>Ending.returned (.int .i64 z)) EQ.out|rfl
     ·rw[if_neg hba] at EQ hc
      have EQ:=Lib.hid EQ
      go_wp2_with (go_at_call 73;refine hc.mono ?_;rintro e w2 ⟨rfl,rfl⟩)
      go_roundw
      case rel=>exact⟨i+1,rfl,by omega,by omega,EQ,by trivial⟩
      case measure=>simp[intOf];omega
   ·have EQ:=EC.out
    rw[cmp_end hlt (by omega)] at EQ
    clear EC
    have EQ:=Lib.hid EQ
    go_wp2_with fail
    refine bodyPost_ret (results_tmp rfl _ _ _) rfl ⟨?_,rfl⟩
    first|exact congrArg (fun z=>Ending.returned (.int .i64 z)) EQ.out|rfl
  ·have hle:s.length=i:=by omega
   have EQ:=EC.out
   rw[cmp_short hle hit] at EQ
   clear EC
   by_cases hst:s.length<t.length
   ·rw[if_pos hst] at EQ
    have EQ:=Lib.hid EQ
    go_wp2_with fail
    refine bodyPost_ret (results_tmp rfl _ _ _) rfl ⟨?_,rfl⟩
    first|exact congrArg (fun z=>Ending.returned (.int .i64 z)) EQ.out|rfl
   ·rw[if_neg hst] at EQ
    have EQ:=Lib.hid EQ
    go_wp2_with fail
    refine bodyPost_ret (results_tmp rfl _ _ _) rfl ⟨?_,rfl⟩
    first|exact congrArg (fun z=>Ending.returned (.int .i64 z)) EQ.out|rfl
theorem find1_any (A1 A2:Option Addr) (c1 c2:Nat) (s t:List Nat) (w:World) (h1:RowsG 1 inE w A1 s) (h2:RowsG 1 inE w A2 t) (hs:s.length≤1000000) (ht:t.length≤1000000) :
  Calls Tryz.prog 39 #[.slice A1 s.length c1, .slice A2 t.length c2] w fun e w'=>e = .returned (.int .i64 (cmpL s t))∧w'=w:=by
 have hc:=scmp_any A1 A2 c1 c2 s t w h1 h2 hs ht
 clear h1 h2
 go_enter Tryz.func39,Tryz.ntmps39
 go_wp2_with (go_at_call 40;refine hc.mono ?_;rintro e w2 ⟨rfl,rfl⟩)
 refine bodyPost_ret (results_tmp rfl _ _ _) rfl ⟨rfl,rfl⟩
end Tw
namespace Wd

def val:List Nat→Nat
 | []=>0
 | x::l=>x+4294967296*val l
def Lb (l:List Nat):Prop:=∀ x∈l,x<4294967296
def canon (n:Nat):List Nat:=if h:n=0 then[] else n % 4294967296::canon (n/4294967296)
termination_by n
decreasing_by omega
theorem canon_zero:canon 0 = []:=by rw[canon];simp
theorem canon_pos {n:Nat} (h:n≠0):canon n=n % 4294967296::canon (n/4294967296):=by rw[canon,dif_neg h]
theorem canon_spec (n:Nat):val (canon n)=n∧Lb (canon n)∧(canon n = []↔n=0)∧(∀ h:canon n ≠ [],(canon n).getLast h≠0):=by
 induction n using Nat.strongRecOn with
 | _ n ih =>
  by_cases h:n=0
  ·subst h
   rw[canon_zero]
   exact⟨rfl,fun x hx=>by simp at hx,by simp,fun h=>absurd rfl h⟩
  ·obtain⟨i1,i2,i3,i4⟩:=ih (n/4294967296) (by omega)
   rw[canon_pos h]
   refine⟨?_,?_,?_,?_⟩
   ·simp only[val];rw[i1];omega
   ·intro x hx
    rcases List.mem_cons.1 hx with rfl|hx
    ·exact Nat.mod_lt _ (by decide)
    ·exact i2 x hx
   ·simp[h]
   ·intro g
    by_cases e:canon (n/4294967296) = []
    ·have:n/4294967296=0:=i3.1 e
     simp only[e,List.getLast_singleton]
     omega
    ·rw[List.getLast_cons e]
     exact i4 e
theorem val_canon (n:Nat):val (canon n)=n:=(canon_spec n).1
theorem lb_canon (n:Nat):Lb (canon n):=(canon_spec n).2.1
theorem val_lt:∀ l,Lb l→val l<4294967296 ^ l.length
 | [],_=>by simp[val]
 | x::l,h=>by
  have hx:=h x (List.mem_cons_self ..)
  have ih:=val_lt l fun y hy=>h y (List.mem_cons_of_mem _ hy)
  simp only[val,List.length_cons]
  rw[Nat.pow_succ]
  omega
theorem canon_uniq:∀ l,Lb l→(∀ h:l ≠ [],l.getLast h≠0)→l=canon (val l)
 | [],_,_=>by simp[val,canon_zero]
 | x::l,h,hl=>by
  have hx:=h x (List.mem_cons_self ..)
  have ih:=canon_uniq l (fun y hy=>h y (List.mem_cons_of_mem _ hy)) fun g=>by
   have:=hl (by simp)
   rwa [List.getLast_cons g] at this
  have hne:val (x::l)≠0:=by
   simp only[val]
   intro e
   have h1:x=0:=by omega
   have h2:val l=0:=by omega
   by_cases g:l = []
   ·subst g
    have:=hl (by simp)
    simp at this
    exact this h1
   ·rw[ih,h2,canon_zero] at g
    exact g rfl
  rw[canon_pos hne]
  simp only[val]
  rw[show (x+4294967296*val l) % 4294967296=x by omega,show (x+4294967296*val l)/4294967296=val l by omega,← ih]
theorem canon_len:∀ (k n:Nat),n<4294967296 ^ k→(canon n).length≤k
 | 0,n,h=>by
         have:n=0:=by simpa using h
         rw[this,canon_zero];simp
 | k+1,n,h=>by
  by_cases e:n=0
  ·rw[e,canon_zero];simp
  ·rw[canon_pos e,List.length_cons]
   have:=canon_len k (n/4294967296) (by rw[Nat.pow_succ] at h;exact Nat.div_lt_of_lt_mul (by rw[Nat.mul_comm];exact h))
   omega
theorem val_append:∀ a b,val (a++b)=val a+4294967296 ^ a.length*val b
 | [],b=>by simp[val]
 | x::a,b=>by
  rw[List.cons_append]
  simp only[val,List.length_cons]
  rw[val_append a b,Nat.pow_succ,Nat.mul_add,Nat.mul_comm (4294967296 ^ a.length) 4294967296,Nat.mul_assoc]
  omega
theorem val_zeros:∀ l,(∀ x∈l,x=0)→val l=0
 | [],_=>rfl
 | x::l,h=>by
  simp only[val]
  rw[h x (List.mem_cons_self ..),val_zeros l fun y hy=>h y (List.mem_cons_of_mem _ hy)]
theorem cut_canon {l:List Nat} {k:Nat} (hl:Lb l) (hk:k≤l.length) (hz:∀ j (h:j<l.length),k≤j→l[j]=0) (hn:k=0 ∨ ∃ h:k-1<l.length,l[k-1]≠0):l.take k=canon (val l):=by
 have e:val (l.take k)=val l:=by
  have h1:=val_append (l.take k) (l.drop k)
  rw[List.take_append_drop] at h1
  have h2:val (l.drop k)=0:=val_zeros _ fun x hx=>by
   obtain⟨i,hi,rfl⟩:=List.mem_iff_getElem.1 hx
   rw[List.getElem_drop]
   exact hz _ _ (by omega)
  rw[h1,h2];simp
 rw[← e]
 refine canon_uniq _ (fun x hx=>hl x (List.mem_of_mem_take hx)) fun g=>?_
 rcases hn with h0|⟨h,hne⟩
 ·subst h0;simp at g
 ·have k0:0<k:=by
   rcases Nat.eq_zero_or_pos k with h0|h0
   ·subst h0;simp at g
   ·exact h0
  rw[List.getLast_eq_getElem]
  have hlen:(l.take k).length-1=k-1:=by rw[List.length_take];omega
  simp only[hlen,List.getElem_take]
  exact hne
theorem canon_take:∀ l,Lb l→canon (val l)=l.take (canon (val l)).length
 | [],_=>by simp[val,canon_zero]
 | x::l,h=>by
  have hx:=h x (List.mem_cons_self ..)
  have ih:=canon_take l fun y hy=>h y (List.mem_cons_of_mem _ hy)
  by_cases e:val (x::l)=0
  ·rw[e,canon_zero];rfl
  ·rw[canon_pos e]
   simp only[val]
   rw[show (x+4294967296*val l) % 4294967296=x by omega,show (x+4294967296*val l)/4294967296=val l by omega,List.length_cons,List.take_succ_cons,← ih]
theorem canon_le (l:List Nat) (h:Lb l):(canon (val l)).length≤l.length:=by
 have e:=congrArg List.length (canon_take l h)
 rw[List.length_take] at e
 omega
end Wd
namespace Wd
open Go.RowKit Lw

abbrev u4 (x:Nat):Value:=.int .u32 (x:Int)
abbrev us (l:List Nat):List Value:=l.map u4
structure Lim (w:World) (a:Option Addr) (n cap:Nat) (l:List Nat):Prop where
 len:l.length=n
 lb:Lb l
 cp:n≤cap
 sm:n≤1000000
 row:0<n → ∃ b off,a=some ⟨b,off,none⟩∧b<w.heap.size∧w.rangeAt b off (us l)
theorem Lim.below {w w':World} {a:Option Addr} {n cap:Nat} {l:List Nat} (h:Lim w a n cap l) (hb:Below w.heap.size w w'):Lim w' a n cap l :=
 ⟨h.len,h.lb,h.cp,h.sm,fun p=>by
  obtain⟨b,off,e,lt,r⟩:=h.row p
  have:=hb.size
  exact⟨b,off,e,by omega,fun j v hv=>(hb.cell (p:=⟨b,off+j,none⟩) lt).trans (r j v hv)⟩⟩
theorem Lim.nil (w:World):Lim w none 0 0 []:=⟨rfl,fun _ h=>by simp at h,Nat.le_refl _,by omega,fun h=>absurd h (by omega)⟩
theorem Lim.cell {w:World} {b off n cap:Nat} {l:List Nat} (h:Lim w (some ⟨b,off,none⟩) n cap l) {k:Nat} (hk:k<l.length):w.cell? ⟨b,off+k,none⟩=some (.int .u32 (l[k]:Int)):=by
 obtain⟨b',off',e,_,r⟩:=h.row (by have:=h.len;omega)
 cases e
 exact r k _ (by simp[hk])
theorem Lim.take {w:World} {a:Option Addr} {n cap:Nat} {l:List Nat} (h:Lim w a n cap l) {k:Nat} (hk:k≤n):Lim w a k cap (l.take k):=by
 have hl:=h.len
 have:=h.cp
 have:=h.sm
 refine⟨by rw[List.length_take];omega,fun x hx=>h.lb x (List.mem_of_mem_take hx),by omega,by omega,fun p=>?_⟩
 obtain⟨b,off,e,lt,r⟩:=h.row (by omega)
 refine⟨b,off,e,lt,fun j v hv=>r j v ?_⟩
 rw[List.getElem?_map] at hv ⊢
 by_cases hj:j<k
 ·rwa [List.getElem?_take_of_lt hj] at hv
 ·rw[List.getElem?_eq_none (by rw[List.length_take];omega)] at hv
  simp at hv
theorem size_setCells (b:Nat):∀ (vs:List Value) (o:Nat) (w:World),(w.setCells b o vs).heap.size=w.heap.size
 | [],_,_=>rfl
 | v::vs,o,w=>by
  rw[World.setCells,size_setCells b vs]
  simp
theorem Lim.setCells {w:World} {a:Option Addr} {n cap:Nat} {l:List Nat} (h:Lim w a n cap l) {c:Nat} (hne:∀ b off,a=some ⟨b,off,none⟩→b≠c) (o:Nat) (vs:List Value):Lim (w.setCells c o vs) a n cap l :=
 ⟨h.len,h.lb,h.cp,h.sm,fun p=>by
  obtain⟨b,off,e,lt,r⟩:=h.row p
  exact⟨b,off,e,by rw[size_setCells];exact lt,World.rangeAt_setCells_apart r c o vs (Or.inl (hne b off e))⟩⟩
theorem Lim.trim {w:World} {a:Option Addr} {n cap:Nat} {l:List Nat} (h:Lim w a n cap l):Lim w a (canon (val l)).length cap (canon (val l)):=by
 have:=h.take (k:=(canon (val l)).length) (by rw[← h.len];exact canon_le l h.lb)
 rwa [← canon_take l h.lb] at this
theorem addr_zero (a:Addr):a.add 0=a:=by simp[Addr.add]
theorem und_us:Tryz.prog.underlying 64=some (.slice 170):=Tryz.underlying64
theorem el_us:Tryz.prog.underlying 64=some (.slice (Tryz.prog.elem 64)):=by kernel_rfl
theorem sz_us (w:World):(sizeOf (Tryz.prog.elem 64)).run Tryz.prog w = .ok 1 w:=by
 have e:(Tryz.prog.info? (Tryz.prog.elem 64)).isSome=true:=by kernel_rfl
 have c:Tryz.prog.cellsOf (Tryz.prog.elem 64)=1:=by kernel_rfl
 generalize Tryz.prog.elem 64=T at e c
 cases hi:Tryz.prog.info? T with
 | none=>rw[hi] at e;cases e
 | some i=>rw[run_sizeOf _ hi,c]
theorem take_run (a:Option Addr) (n cap k:Nat) (h:k≤cap) (w:World) :
  (Instr.slice 64 (.slice a n cap) none (some (.int .i64 (k:Int))) none).run Tryz.prog w = .ok (.slice a k cap) w:=by
 rw[run_slice_h w _ a n cap el_us .i64 k (by omega) (by omega),sz_us]
 have e:sliced a 0 (k:Int).toNat cap 1 = .slice a k cap:=by
  unfold sliced
  rw[Int.toNat_natCast,Nat.sub_zero,Nat.sub_zero]
  cases a <;> simp[addr_zero]
 simp only[Result.andThen,e]
end Wd
namespace Wd
open Go.RowKit Lw

theorem trim_walk (l:List Nat) (a:Option Addr) (n cap:Nat) (w:World) (hL:Lim w a n cap l) :
  Calls Tryz.prog 191 #[.slice a n cap] w fun e w'=>e = .returned (.slice a (canon (val l)).length cap)∧w=w':=by
 have HL:=Lib.hid hL
 have hlen:=hL.len
 have hcp:=hL.cp
 have hsm:=hL.sm
 clear hL
 go_enter Tryz.func191,Tryz.ntmps191
 go_wp2
 go_loopw [3] (fun i wr=>∃ k:Nat,k≤n∧i = .int .i64 k∧wr=w ∧ ∀ j (h:j<l.length),k≤j→l[j]=0) (fun i _=>(intOf i).toNat)
 case atStart=>exact⟨n,Nat.le_refl _,rfl,rfl,fun j h g=>by omega⟩
 case round =>
  obtain⟨k,hk,rfl,rfl,hz⟩:=hrel
  have ht:=take_run a n cap k (by omega)
  have fin:(k=0 ∨ ∃ h:k-1<l.length,l[k-1]≠0)→Lim wr a k cap (canon (val l)):=fun g=>by
   rw[← cut_canon HL.out.lb (by omega) hz g]
   exact HL.out.take hk
  have Fin:=Lib.hid fin
  clear fin
  by_cases k0:k=0
  ·subst k0
   clear hz
   go_wp2
   exact bodyPost_ret (results_tmp rfl _ _ _) rfl ⟨by rw[(Fin.out (Or.inl (by trivial))).len];rfl,rfl⟩
  ·by_cases kz:l[k-1]'(by omega)=0
   ·have hz':∀ j (h:j<l.length),k-1≤j→l[j]=0:=fun j h g=>by
     by_cases e:j=k-1
     ·subst e;exact kz
     ·exact hz j h (by omega)
    have Hz:=Lib.hid hz'
    have hk1:k-1<l.length:=by omega
    obtain⟨b,off,rfl, -, -⟩:=HL.out.row (by omega)
    have ce:=HL.out.cell (k:=k-1) (by omega)
    rw[kz] at ce
    have e1:IntKind.i64.wrap ((k:Int)-1)=((k-1:Nat):Int):=by rw[IntWalk.i64_in _ (by omega)];omega
    have k1:(0:Int)<(k:Int):=by omega
    have k2:((k-1:Nat):Int)<(n:Int):=by omega
    clear hz hz' kz Fin ht
    go_wp2
    go_roundw
    case rel=>exact⟨k-1,by omega,by first|rfl|trivial,by first|rfl|trivial,Hz.out⟩
    case measure=>simp[intOf];omega
   ·have lm:=Fin.out (Or.inr ⟨by omega,kz⟩)
    have Lm:=Lib.hid lm
    obtain⟨b,off,rfl, -, -⟩:=HL.out.row (by omega)
    have ce:=HL.out.cell (k:=k-1) (by omega)
    have kz':¬ ((l[k-1]'(by omega):Nat):Int)=0:=by omega
    have e1:IntKind.i64.wrap ((k:Int)-1)=((k-1:Nat):Int):=by rw[IntWalk.i64_in _ (by omega)];omega
    have k1:(0:Int)<(k:Int):=by omega
    have k2:((k-1:Nat):Int)<(n:Int):=by omega
    have k3:k≤cap:=by omega
    clear hz Fin lm
    go_wp2
    exact bodyPost_ret (results_tmp rfl _ _ _) rfl ⟨by rw[Lm.out.len];rfl,rfl⟩
end Wd
namespace Wd
open Go.RowKit Lw

theorem infoW:(Tryz.prog.info? 66).map (·.size)=some 2:=by kernel_rfl
def Wide (B:Nat) (w:World) (V:Value) (z:Int):Prop:=∃ a k cap,V = .agg #[.bool (decide (z<0)), .slice a k cap]∧Lim w a k cap (canon z.natAbs) ∧ ∀ b off,a=some ⟨b,off,none⟩→B≤b
theorem Wide.below {B:Nat} {w w':World} {V:Value} {z:Int} (h:Wide B w V z) (hb:Below w.heap.size w w'):Wide B w' V z:=by
 obtain⟨a,k,cap,e,h,g⟩:=h
 exact⟨a,k,cap,e,h.below hb,g⟩
theorem Wide.mono {B B':Nat} {w:World} {V:Value} {z:Int} (h:Wide B w V z) (hb:B'≤B):Wide B' w V z:=by
 obtain⟨a,k,cap,e,h,g⟩:=h
 exact⟨a,k,cap,e,h,fun b off e=>Nat.le_trans hb (g b off e)⟩
def sgn (neg:Bool) (n:Nat):Int:=if neg then -(n:Int) else n
theorem sgn_abs (neg:Bool) (n:Nat):(sgn neg n).natAbs=n:=by cases neg <;> simp[sgn]
theorem sgn_neg (neg:Bool) (n:Nat):decide (sgn neg n<0)=(neg && decide (0<n)):=by
 cases neg
 ·simp[sgn]
 ·simp only[sgn];rw[Bool.true_and];congr 1;simp
theorem canon_lenpos (n:Nat):0<(canon n).length↔0<n:=by
 have:=(canon_spec n).2.2.1
 constructor
 ·intro h;rcases Nat.eq_zero_or_pos n with e|e
  ·rw[this.2 e] at h;simp at h
  ·exact e
 ·intro h;rcases List.length_pos_iff.2 (fun e=>by have:=this.1 e;omega) with h;exact h
def MadePost (w:World) (a:Option Addr) (l:List Nat) (cap:Nat) (z:Int) (e:Ending) (w':World):Prop:=e = .returned (.tuple #[.agg #[.bool (decide (z<0)), .slice a (canon (val l)).length cap], .int .i64 0])∧Lim w' a (canon (val l)).length cap (canon (val l))∧Below w.heap.size w w'
theorem made_pick (neg:Bool) (k:Nat) (l:List Nat) (h:(canon (val l)).length=k):(if neg=true then decide ((0:Int)<(k:Int)) else false)=decide (sgn neg (val l)<0):=by
 rw[sgn_neg]
 have:=canon_lenpos (val l)
 cases neg
 ·simp
 ·simp only[if_true,Bool.true_and];congr 1;simp;omega
theorem made_walk (neg:Bool) (l:List Nat) (a:Option Addr) (n cap:Nat) (w:World) (hL:Lim w a n cap l) (hm:(canon (val l)).length≤4096) :
  Calls Tryz.prog 138 #[.bool neg, .slice a n cap] w (MadePost w a l cap (sgn neg (val l))):=by
 have th:=there_new w #[.bool false, .slice none 0 0] 66 2 (by simp)
 have hB:=(Below.refl w.heap.size w).alloc (Nat.le_refl _) (.cells #[.bool false, .slice none 0 0] 66)
 have hL1:=hL.below hB
 have HW:=fun w' (hb:Below w.heap.size w w')=>hL.trim.below hb
 have HP:=made_pick neg _ l rfl
 have HF:∀ e w',e = .returned (.tuple #[.agg #[.bool (decide (sgn neg (val l)<0)), .slice a (canon (val l)).length cap], .int .i64 0])→Below w.heap.size w w'→MadePost w a l cap (sgn neg (val l)) e w':=fun e w' h1 h2=>⟨h1,HW w' h2,h2⟩
 generalize hk:(canon (val l)).length=k at hm HF HP
 generalize hz:sgn neg (val l)=z at HF HP ⊢
 have hk2:¬ (4096:Int)<(k:Int):=by omega
 have Hk:=Lib.hid hk
 have HF':=Lib.hid HF
 have HP':=Lib.hid HP
 have Key:=Lib.hid (fun (b:Bool) (g:b=decide (z<0))=>(show World.rangeAt ((w.alloc (.cells #[.bool false, .slice none 0 0] 66)).setCells w.heap.size 0 [.bool b, .slice a k cap]) w.heap.size 0 [.bool (decide (z<0)), .slice a k cap] by rw[← g];exact World.rangeAt_setCells_same _ _ _ _ th))
 clear hm hL hk hz HW HF HP
 go_enter Tryz.func138,Tryz.ntmps138
 go_wp2_with fail
 refine(trim_walk l a n cap _ hL1).mono ?_
 rintro e w' ⟨rfl,rfl⟩
 rw[Hk.out]
 clear hL1
 go_wp2_with (refine wpList_store_mid rfl _ (.tmp 4) (.tmp 19) rfl w.heap.size 0 _ rfl rfl ?_ infoW ?_ ?_;exact th;simp[Value.oneCell'])
 all_goals
  refine bodyPost_ret (ret_cell_tmp Tryz.results138 _ _ w.heap.size [.bool (decide (z<0)), .slice a k cap] _ rfl ?_ Tryz.underlying66 rfl infoW) rfl (HF'.out _ _ rfl (below_setCells _ (Nat.le_refl _) _ _ _ hB))
  refine Key.out _ ?_
  rw[← HP'.out]
  first|rw[if_pos ‹_›]|rw[if_neg ‹_›]
  try simp
end Wd
namespace Wd
open Go.RowKit Lw

theorem Lim.new (w:World) (l:List Nat) (t:TypeId) (cap:Nat) (hl:Lb l) (hc:l.length≤cap) (hs:l.length≤1000000):Lim (w.alloc (.cells (us l).toArray t)) (some ⟨w.heap.size,0,none⟩) l.length cap l :=
 ⟨rfl,hl,hc,hs,fun _=>⟨_,_,rfl,by simp,rangeAt_new w (us l) t⟩⟩
theorem two_val (n:Nat) (h:n<18446744073709551616):val [n % 4294967296,n/4294967296]=n∧Lb [n % 4294967296,n/4294967296]:=by
 refine⟨by simp only[val];omega,fun x hx=>?_⟩
 simp only[List.mem_cons,List.not_mem_nil,or_false] at hx
 rcases hx with rfl|rfl <;> omega
theorem from_sgn (t:Int):sgn (decide (t<0)) t.natAbs=t:=by
 by_cases h:t<0 <;> simp[sgn,h] <;> omega
def FromPost (w:World) (z:Int) (e:Ending) (w':World):Prop:=∃ V,e = .returned V∧Wide w.heap.size w' V z∧Below w.heap.size w w'
theorem from_walk (t:Int) (w:World) (h0:-9223372036854775808≤t) (h1:t<9223372036854775808) :
  Calls Tryz.prog 87 #[.int .i64 t] w (FromPost w t):=by
 have th:=there_new w #[.bool false, .slice none 0 0] 66 2 (by simp)
 have hB:=(Below.refl w.heap.size w).alloc (Nat.le_refl _) (.cells #[.bool false, .slice none 0 0] 66)
 generalize hn:t.natAbs=n
 have hn64:n<18446744073709551616:=by omega
 obtain⟨v1,v2⟩:=two_val n hn64
 have hL:=Lim.new (w.alloc (.cells #[.bool false, .slice none 0 0] 66)) [n % 4294967296,n/4294967296] 170 2 v2 (by simp) (by simp)
 have hM:=made_walk (decide (t<0)) _ _ 2 2 _ hL (by rw[v1];exact Nat.le_trans (canon_len 2 n (by omega)) (by decide))
 rw[v1,show sgn (decide (t<0)) n=t by rw[← hn];exact from_sgn t] at hM
 have r1:(IntKind.u32.wrap (n:Int))=((n % 4294967296:Nat):Int):=by rw[IntKind.wrap_u32];omega
 have hM1:Calls Tryz.prog 138 #[.bool (decide (t<0)), .slice (some ⟨w.heap.size+1,0,none⟩) 2 2] ((w.alloc (.cells #[.bool false, .slice none 0 0] 66)).alloc (.cells #[.int .u32 ((n:Int) % 4294967296), .int .u32 ((n:Int)/4294967296)] 170)) (MadePost ((w.alloc (.cells #[.bool false, .slice none 0 0] 66)).alloc (.cells #[.int .u32 ((n:Int) % 4294967296), .int .u32 ((n:Int)/4294967296)] 170)) (some ⟨w.heap.size+1,0,none⟩) [n % 4294967296,n/4294967296] 2 t):=by
  simpa [us,u4] using hM
 have hB1:=hB.alloc (by simp) (.cells #[.int .u32 ((n:Int) % 4294967296), .int .u32 ((n:Int)/4294967296)] 170)
 have th1:=World.there_alloc th (.cells #[.int .u32 ((n:Int) % 4294967296), .int .u32 ((n:Int)/4294967296)] 170)
 clear hM hL v2 hB th
 generalize hW:(w.alloc (.cells #[.bool false, .slice none 0 0] 66)).alloc (.cells #[.int .u32 ((n:Int) % 4294967296), .int .u32 ((n:Int)/4294967296)] 170)=W at hM1 hB1 th1
 have hsz:W.heap.size=w.heap.size+2:=by rw[← hW];simp
 have HW:=Lib.hid hW
 clear hW
 have main:∀ e w2,MadePost W (some ⟨w.heap.size+1,0,none⟩) [n % 4294967296,n/4294967296] 2 t e w2 → ∃ k,e = .returned (.tuple #[.agg #[.bool (decide (t<0)), .slice (some ⟨w.heap.size+1,0,none⟩) k 2], .int .i64 0])∧Hid (Lim w2 (some ⟨w.heap.size+1,0,none⟩) k 2 (canon t.natAbs)∧Below w.heap.size w w2∧w2.there w.heap.size 0 2∧w.heap.size+2≤w2.heap.size):=by
  rintro e w2 ⟨rfl,hV,hb⟩
  rw[v1,← hn] at hV ⊢
  exact⟨_,rfl,Lib.hid ⟨hV,below_then hB1 hb,there_below th1 hb (by omega),by have:=hb.size;omega⟩⟩
 have fin:∀ k (w2:World),Lim w2 (some ⟨w.heap.size+1,0,none⟩) k 2 (canon t.natAbs)∧Below w.heap.size w w2∧w2.there w.heap.size 0 2∧w.heap.size+2≤w2.heap.size → ∀ vs,FromPost w t (.returned (.agg #[.bool (decide (t<0)), .slice (some ⟨w.heap.size+1,0,none⟩) k 2])) ((w2.alloc (.cells vs 66)).setCells w.heap.size 0 [.bool (decide (t<0)), .slice (some ⟨w.heap.size+1,0,none⟩) k 2]):=by
  rintro k w2 ⟨hV,hb,th,hs⟩ vs
  refine⟨_,rfl,⟨_,k,2,rfl,(hV.below ((Below.refl _ w2).alloc (Nat.le_refl _) _)).setCells (fun b off e=>by cases e;omega) _ _,fun b off e=>by cases e;omega⟩,below_setCells _ (Nat.le_refl _) _ _ _ (hb.alloc (by omega) _)⟩
 have Main:=Lib.hid main
 have Fin:=Lib.hid fin
 clear main fin hB1 th1
 by_cases g:t<0
 ·have r2:IntKind.u64.wrap t=t+18446744073709551616:=by rw[IntKind.wrap_u64];omega
  have r3:IntKind.u64.wrap (-(t+18446744073709551616))=(n:Int):=by rw[IntKind.wrap_u64];omega
  rw[show decide (t<0)=true from decide_eq_true g] at hM1
  have dg:decide (t<0)=true:=decide_eq_true g
  have Dg:=Lib.hid dg
  have HM1:=Lib.hid hM1
  clear hM1 dg
  go_enter Tryz.func87,Tryz.ntmps87
  go_wp2_with fail
  rw[HW.out]
  refine HM1.out.mono ?_
  intro e w2 he
  obtain⟨k,rfl,hP⟩:=Main.out e w2 he
  clear he r2 r3 HM1
  have F2:=Lib.hid (Fin.out k w2 hP.out)
  obtain⟨-, -,th, -⟩:=hP.out
  clear hP
  go_wp2_with (first|(refine wpList_store_new rfl _ (.tmp 4) (.tmp 22) rfl _ _ rfl rfl infoW rfl ?_ ?_;simp[Value.oneCell'])|(refine wpList_store_mid rfl _ (.tmp 2) (.tmp 24) rfl w.heap.size 0 _ rfl rfl ?_ infoW ?_ ?_;exact World.there_alloc th _;simp[Value.oneCell']))
  have F3:=F2.out
  rw[Dg.out] at F3
  exact bodyPost_ret (ret_cell Tryz.results87 _ _ w.heap.size [.bool true, .slice _ k 2] _ rfl (World.rangeAt_setCells_same _ _ _ _ (World.there_alloc th _)) Tryz.underlying66 rfl infoW) rfl (F3 _)
 ·have r2:IntKind.u64.wrap t=(n:Int):=by rw[IntKind.wrap_u64];omega
  rw[show decide (t<0)=false from decide_eq_false g] at hM1
  have dg:decide (t<0)=false:=decide_eq_false g
  have Dg:=Lib.hid dg
  have HM1:=Lib.hid hM1
  clear hM1 dg
  go_enter Tryz.func87,Tryz.ntmps87
  go_wp2_with fail
  rw[HW.out]
  refine HM1.out.mono ?_
  intro e w2 he
  obtain⟨k,rfl,hP⟩:=Main.out e w2 he
  clear he r2 HM1
  have F2:=Lib.hid (Fin.out k w2 hP.out)
  obtain⟨-, -,th, -⟩:=hP.out
  clear hP
  rw[Dg.out]
  go_wp2_with (first|(refine wpList_store_new rfl _ (.tmp 4) (.tmp 22) rfl _ _ rfl rfl infoW rfl ?_ ?_;simp[Value.oneCell'])|(refine wpList_store_mid rfl _ (.tmp 2) (.tmp 24) rfl w.heap.size 0 _ rfl rfl ?_ infoW ?_ ?_;exact World.there_alloc th _;simp[Value.oneCell']))
  have F3:=F2.out
  rw[Dg.out] at F3
  exact bodyPost_ret (ret_cell Tryz.results87 _ _ w.heap.size [.bool false, .slice _ k 2] _ rfl (World.rangeAt_setCells_same _ _ _ _ (World.there_alloc th _)) Tryz.underlying66 rfl infoW) rfl (F3 _)
end Wd
end Go.Proofs.YtdnogmanbdgadaaGreatDoor
