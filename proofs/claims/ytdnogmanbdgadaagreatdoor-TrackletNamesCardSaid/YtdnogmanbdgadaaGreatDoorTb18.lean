/-
  Lemmas and walks, texts joined: WLeft, WSub, ShelfC, WClone, WStep, WRight0.
-/
import Derived.Shelf.SlicesE.Clone
import Derived.Shelf.Small.Bits
import Derived.Laws.CopyOwn
import Derived.Test.YtdnogmanbdgadaaGreatDoorTb17
import Derived.Test.YtdnogmanbdgadaaGreatDoorProg
import Derived.Test.YtdnogmanbdgadaaGreatDoorTb04
import Derived.Test.YtdnogmanbdgadaaGreatDoorTb14
set_option linter.unusedSimpArgs false
set_option linter.unusedVariables false
set_option maxRecDepth 100000
set_option maxHeartbeats 40000000
namespace Go.Proofs.YtdnogmanbdgadaaGreatDoor
namespace Wd
open Go.RowKit Lw

theorem or_add (c x s:Nat) (hc:c<2 ^ s) (hs:s<32) (hx:x<4294967296):bits BinOp.or IntKind.u64 (c:Int) ((x*2 ^ s:Nat):Int)=((c+x*2 ^ s:Nat):Int):=by
 have h1:(2:Nat) ^ s≤2 ^ 31:=Nat.pow_le_pow_right (by decide) (by omega)
 have h2:x*2 ^ s≤4294967295*2147483648:=Nat.mul_le_mul (by omega) h1
 have e:c+x*2 ^ s=c ||| x*2 ^ s:=by
  have:=Nat.shiftLeft_add_eq_or_of_lt hc x
  rw[Nat.shiftLeft_eq,Nat.or_comm] at this
  rw[← this,Nat.add_comm]
 rw[u64_or_nat _ _ (by have:(2:Nat) ^ 31=2147483648:=rfl;omega) (by omega),e]
theorem left_walk (l:List Nat) (A:Option Addr) (n cap s:Nat) (w:World) (hA:Lim w A n cap l) (hs:s<32) (hn:n+1≤1000000) :
  Calls Tryz.prog 231 #[.slice A n cap, .int .i64 (s:Int)] w fun e w'=>∃ V L,e = .returned V∧L.length=n+1∧Lb L∧val L=val l*2 ^ s∧OwnL w' w.heap.size V L∧Below w.heap.size w w':=by
 have la:=hA.len
 have hmk:∀ w:World,(Instr.makeSlice 64 (.int .i64 0) (.int .i64 ((n:Int)+1))).run Tryz.prog w = .ok (.slice (some ⟨w.heap.size,0,none⟩) 0 (n+1)) (w.alloc (.cells (nu (n+1)) 170)):=fun w=>by
  obtain⟨i,hi,hzz⟩:=Option.map_eq_some_iff.1 info4
  simp only[Prod.mk.injEq] at hzz
  obtain⟨hz,hs,hb⟩:=hzz
  have h:=run_make (P:=Tryz.prog) w 64 170 i _ Tryz.underlying64 hi hz .i64 .i64 0 ((n:Int)+1) (by omega) (by omega) (by rw[hb];omega) (by omega)
  have e:((n:Int)+1).toNat=n+1:=by omega
  rw[hs,e,Nat.mul_one] at h
  show _=Result.ok _ (w.alloc (.cells (us (List.replicate (n+1) 0)).toArray 170))
  rw[← made_us]
  exact h
 obtain⟨i0',hi,hzz⟩:=Option.map_eq_some_iff.1 info4
 simp only[Prod.mk.injEq] at hzz
 obtain⟨hz0,hz1,hz2⟩:=hzz
 have k1:(s:Int).tdiv 32=0:=Int.tdiv_eq_zero_of_lt (by omega) (by omega)
 have k2:(s:Int).tmod 32=(s:Int):=Int.tmod_eq_of_lt (by omega) (by omega)
 have HA:=Lib.hid hA
 clear hA
 go_enter Tryz.func231,Tryz.ntmps231
 go_wp2
 have hA0:=World.ownsRow_made w (nu (n+1)) (n+1) (base:=w.heap.size) (e:=170) (size:=1) (Nat.le_refl _) (by unfold maxLen;omega) (by simp[nu,us])
 have hB0:=(Below.refl w.heap.size w).alloc (Nat.le_refl _) (.cells (nu (n+1)) 170)
 clear hmk
 go_loopw [5,6,20] (fun V c i wr=>∃ (k cc:Nat) (L:List Nat),k≤n∧c = .int .u64 cc∧i = .int .i64 k∧FIn l L s k cc∧OwnL wr w.heap.size V L∧Below w.heap.size w wr) (fun _ _ i _=>n-(intOf i).toNat)
 case atStart=>exact⟨0,0,[],by omega,rfl,rfl,FIn.zero l s,hA0,hB0⟩
 case round =>
  clear hA0 hB0
  obtain⟨k,c,L,hk,rfl,rfl,hF,hO,hB⟩:=hrel
  have hL:=hF.len
  have hc:=hF.c1
  have hsz:=hB.size
  have h31:(2:Nat) ^ s≤2147483648:=Nat.pow_le_pow_right (show 0<2 by decide) (show s≤31 by omega)
  have HO:=Lib.hid hO
  have HB:=Lib.hid hB
  clear hO hB
  by_cases hlt:k<n
  ·have hAw:=HA.out.below HB.out
   obtain⟨bA,oA,rfl, -, -⟩:=hAw.row (by omega)
   have cA:=hAw.cell (k:=k) (by omega)
   have i1:(k:Int)<(n:Int):=by omega
   have xb:=lb_get hAw.lb (k:=k) (by omega)
   have st:=hF.step (by omega) hAw.lb
   have oa:=or_add c l[k] s hc hs xb
   generalize l[k]'(by omega)=x at cA xb st oa
   have hp:x*2 ^ s≤4294967295*2147483648:=Nat.mul_le_mul (by omega) h31
   have r1:IntKind.u64.wrap ((x:Int)*2 ^ s)=((x*2 ^ s:Nat):Int):=by
    rw[show (x:Int)*2 ^ s=((x*2 ^ s:Nat):Int) by rw[Int.natCast_mul,Int.natCast_pow];rfl]
    exact IntWalk.u64_in _ (by omega)
   generalize x*2 ^ s=p at *
   generalize hT:c+p=T at oa st
   have St:=Lib.hid st
   have ev:((T % 4294967296:Nat):Int)=(T:Int) % 4294967296:=by omega
   have ed:((T/4294967296:Nat):Int)=(T:Int)/4294967296:=by omega
   have Ev:=Lib.hid ev
   have Ed:=Lib.hid ed
   clear st hF hAw ev ed
   go_wp2_with (at_builtin;refine wpList_append_own _ rfl (.tmp 31) (.tmp 34) 64 rfl w.heap.size 170 i0' (.int .u32 0) 1 4 Tryz.underlying64 hi hz0 hz1 hz2 rfl (by decide) _ _ _ rfl (HO.out.alloc _) ⟨wr.heap.size,0,none⟩ 1 1 [.int .u32 ((T:Int) % 4294967296)] rfl rfl (by intro j u hj;match j,hj with|0,hj=>(simp at hj;subst hj;simp[Addr.add])) (by intro u hu;simp at hu;subst hu;rfl) (by unfold maxLen;omega) (by omega) (by simp;omega) ?_)
   intro v' w1 hown' hgrow _
   have hB1:=(HB.out.alloc (Nat.le_of_lt_succ (by omega)) (.cells #[.int .u32 ((T:Int) % 4294967296)] 170)).grown hgrow (by simp;omega) (fun k e=>(HO.out.lt k e).1)
   rw[← Ev.out] at hown'
   have hO1:OwnL w1 w.heap.size v' (L ++ [T % 4294967296]):=by
    show w1.ownsRow _ _ 1 v' (L ++ [T % 4294967296]).length (us (L ++ [T % 4294967296]))
    rw[List.length_append,us,List.map_append,hL]
    exact hown'
   have fin:∃ (k' c':Nat) (L':List Nat),k'≤n∧Value.int .u64 ((T:Int)/4294967296) = .int .u64 (c':Int)∧Value.int .i64 ((k:Int)+1) = .int .i64 (k':Int)∧FIn l L' s k' c'∧OwnL w1 w.heap.size v' L'∧Below w.heap.size w w1 :=
    ⟨k+1,T/4294967296,_,by omega,by rw[Ed.out],by simp,St.out,hO1,hB1⟩
   have Fin:=Lib.hid fin
   clear fin hown' hgrow hB1 hO1
   go_wp2
   go_roundw
   case rel=>exact Fin.out
   case measure=>simp[intOf];omega
  ·obtain rfl:k=n:=by omega
   have hcb:(c:Int) % 4294967296=c:=by omega
   have ff:val (L ++ [c])=val l*2 ^ s∧Lb (L ++ [c])∧(L ++ [c]).length=l.length+1:=by rw[← la] at hF;exact hF.fin (by omega)
   have FF:=Lib.hid ff
   clear ff hF
   go_wp2_with (at_builtin;refine wpList_append_own _ rfl (.tmp 39) (.tmp 42) 64 rfl w.heap.size 170 i0' (.int .u32 0) 1 4 Tryz.underlying64 hi hz0 hz1 hz2 rfl (by decide) _ _ _ rfl (HO.out.alloc _) ⟨wr.heap.size,0,none⟩ 1 1 [.int .u32 (c:Int)] rfl rfl (by intro j u hj;match j,hj with|0,hj=>(simp at hj;subst hj;simp[Addr.add])) (by intro u hu;simp at hu;subst hu;rfl) (by unfold maxLen;omega) (by omega) (by simp;omega) ?_)
   intro v' w1 hown' hgrow _
   have hB1:=(HB.out.alloc (Nat.le_of_lt_succ (by omega)) (.cells #[.int .u32 (c:Int)] 170)).grown hgrow (by simp;omega) (fun k e=>(HO.out.lt k e).1)
   have hO1:OwnL w1 w.heap.size v' (L ++ [c]):=by
    show w1.ownsRow _ _ 1 v' (L ++ [c]).length (us (L ++ [c]))
    rw[List.length_append,us,List.map_append,hL]
    exact hown'
   have Fin:=Lib.hid (show ∃ V L',Ending.returned v' = .returned V∧L'.length=k+1∧Lb L'∧val L'=val l*2 ^ s∧OwnL w1 w.heap.size V L'∧Below w.heap.size w w1 from⟨v',L ++ [c],rfl,by rw[FF.out.2.2,la],FF.out.2.1,FF.out.1,hO1,hB1⟩)
   clear hown' hgrow hB1 hO1
   go_wp2
   refine bodyPost_ret (results_tmp rfl _ _ _) rfl ?_
   exact Fin.out
end Wd
namespace Wd
open Go.RowKit Lw

theorem Lim.grown {A B:World} {a:Option Addr} {n cap:Nat} {l:List Nat} {g:Nat} (h:Lim A a n cap l) (hg:A.grownBy B (some g)) (hne:∀ b off,a=some ⟨b,off,none⟩→b≠g):Lim B a n cap l :=
 ⟨h.len,h.lb,h.cp,h.sm,fun p=>by
  obtain⟨b,off,e,lt,r⟩:=h.row p
  exact⟨b,off,e,Nat.lt_of_lt_of_le lt hg.size,fun j v hv=>hg.cell (r j v hv) (by have:=hne b off e;simpa using this)⟩⟩
structure SubPost (w:World) (g:Nat) (U v:List Nat) (q:Nat) (e:Ending) (w':World):Prop where
 e:e = .returned (.bool (decide (q*val v≤val U)))
 r:∃ U',Row w' g U'∧U'.length=U.length∧Lb U'∧(q*val v≤val U→val U'+q*val v=val U)
 g:w.grownBy w' (some g)
theorem subtract_walk (U v:List Nat) (g cu n cv q:Nat) (D:Option Addr) (w:World) (hU:Row w g U) (bU:Lb U) (lU:U.length=n+1) (hD:Lim w D n cv v) (hne:∀ b off,D=some ⟨b,off,none⟩→b≠g) (hq:q<4294967296) (hn:n+1≤1000000) :
  Calls Tryz.prog 246 #[.slice (some ⟨g,0,none⟩) (n+1) cu, .slice D n cv, .int .u32 (q:Int)] w (SubPost w g U v q):=by
 have lv:=hD.len
 have HD:=Lib.hid hD
 have HU:=Lib.hid hU
 have Bv:=Lib.hid hD.lb
 clear hD hU
 go_enter Tryz.func246,Tryz.ntmps246
 go_wp2
 go_loopw [7,8,14] (fun c br i wr=>∃ (k cc b:Nat) (L:List Nat),k≤n∧c = .int .u64 cc∧br = .int .u32 b∧i = .int .i64 k∧SIn U v q L k cc b∧Row wr g L∧w.grownBy wr (some g)) (fun _ _ i _=>n-(intOf i).toNat)
 case atStart=>exact⟨0,0,0,U,by omega,rfl,rfl,rfl,SIn.zero v q bU,HU.out,World.grownBy.refl _ _⟩
 case round =>
  obtain⟨k,c,b,L,hk,rfl,rfl,rfl,hS,hR,hG⟩:=hrel
  have hL:=hS.len
  by_cases hlt:k<n
  ·have hDw:=HD.out.grown hG hne
   obtain⟨bD,oD,rfl, -, -⟩:=hDw.row (by omega)
   have cD:=hDw.cell (k:=k) (by omega)
   have i1:(k:Int)<(n:Int):=by omega
   have i2:(k:Int)<(n:Int)+1:=by omega
   have cL:=hR.cell (k:=k) (by omega)
   have fL:=hR.free k
   have st:=hS.step (by omega) (by omega) Bv.out hq
   have lb:=lb_get hS.lb (k:=k) (by omega)
   have xb:=lb_get Bv.out (k:=k) (by omega)
   have qb:=q_bd hq xb hS.c1
   have b1:=hS.b1
   have c1:=hS.c1
   generalize v[k]'(by omega)=x at cD st xb qb
   generalize L[k]'(by omega)=y at cL st lb
   have hp:q*x≤4294967295*4294967295:=Nat.mul_le_mul (by omega) (by omega)
   have r1:IntKind.u64.wrap ((q:Int)*(x:Int))=((q*x:Nat):Int):=by rw[← Int.natCast_mul];exact IntWalk.u64_in _ (by omega)
   generalize q*x=p at *
   have sb:=fun w=>sub32n y ((c+p) % 4294967296) b w lb (Nat.mod_lt _ (by decide)) b1
   generalize hvv:(y+4294967296-(c+p) % 4294967296-b) % 4294967296=vv at st sb
   generalize hkk:(if y<(c+p) % 4294967296+b then 1 else 0:Nat)=kk at st sb
   have em:(((c+p) % 4294967296:Nat):Int)=((c:Int)+(p:Int)) % 4294967296:=by omega
   have ed:(((c+p)/4294967296:Nat):Int)=((c:Int)+(p:Int))/4294967296:=by omega
   rw[em] at sb
   have rs:=hR.set k vv
   have gs:=hG.trans (grownBy_set2 wr g k (.int .u32 (vv:Int)))
   have fin:∃ (k' c' b':Nat) (L':List Nat),k'≤n∧Value.int .u64 (((c:Int)+(p:Int))/4294967296) = .int .u64 (c':Int)∧Value.int .u32 (kk:Int) = .int .u32 (b':Int)∧Value.int .i64 ((k:Int)+1) = .int .i64 (k':Int)∧SIn U v q L' k' c' b'∧Row (wr.setCell ⟨g,k,none⟩ (.int .u32 (vv:Int))) g L'∧w.grownBy (wr.setCell ⟨g,k,none⟩ (.int .u32 (vv:Int))) (some g) :=
    ⟨k+1,_,kk,_,by omega,by rw[← ed],rfl,by simp,st,rs,gs⟩
   have Fin:=Lib.hid fin
   have q1:c+p<18446744073709551616:=by omega
   clear qb
   clear fin rs gs st hvv hkk em ed hS hR hG hDw lb b1
   go_wp2_with (go_at_call 235;refine(sb _).mono ?_;rintro e w' ⟨rfl,rfl⟩)
   go_roundw
   case rel=>exact Fin.out
   case measure=>simp[intOf];omega
  ·obtain rfl:k=n:=by omega
   have cL:=hR.cell (k:=k) (by omega)
   have fL:=hR.free k
   have lb:=lb_get hS.lb (k:=k) (by omega)
   have la:=SIn.last (u0:=U) (v:=v) (u:=L) (q:=q) (c:=c) (br:=b) (by rw[lv];exact hS) (by omega)
   have c1:=hS.c1
   have b1:=hS.b1
   simp only[lv] at la
   generalize L[k]'(by omega)=y at *
   have sb:=fun w=>sub32n y c b w lb c1 b1
   generalize (y+4294967296-c-b) % 4294967296=vv at la sb
   generalize hkk:(if y<c+b then 1 else 0:Nat)=kk at la sb
   have k1:kk≤1:=by rw[← hkk];exact br_le _ _ _
   have dn:=SIn.done (u0:=U) (v:=v) (u':=L.set k vv) (q:=q) (g:=kk) (by simp;omega) (by omega) la.1 bU k1 (by rw[lv];exact la.2)
   have rs:=hR.set k vv
   have gs:=hG.trans (grownBy_set2 wr g k (.int .u32 (vv:Int)))
   have ekk:((kk:Int)==0)=decide (q*val v≤val U):=by
    have h:=dn.1
    rcases Nat.eq_zero_or_pos kk with e0|e0
    ·rw[decide_eq_true (h.1 e0),e0];rfl
    ·have h3:¬ q*val v≤val U:=fun h2=>by have:=h.2 h2;omega
     rw[decide_eq_false h3,beq_eq_false_iff_ne]
     omega
   have fin:SubPost w g U v q (.returned (.bool ((kk:Int)==0))) (wr.setCell ⟨g,k,none⟩ (.int .u32 (vv:Int))) :=
    ⟨by rw[ekk],⟨_,rs,by simp;omega,la.1,fun h=>dn.2 (dn.1.2 h)⟩,gs⟩
   have Fin:=Lib.hid fin
   clear fin rs gs dn la hkk ekk hS hR hG lb b1
   have i2:(k:Int)<(k:Int)+1:=by omega
   have c2:(c:Int) % 4294967296=c:=by omega
   go_wp2_with (go_at_call 235;refine(sb _).mono ?_;rintro e w' ⟨rfl,rfl⟩)
   refine bodyPost_ret (results_tmp rfl _ _ _) rfl ?_
   exact Fin.out
end Wd
end Go.Proofs.YtdnogmanbdgadaaGreatDoor
namespace Go.Proofs
open Go.Shelf

def Tryz.slCl_ren:Go.Shelf.Ren:=⟨fun|41=>221|n=>n,fun|22=>64|23=>170|4=>4|n=>n,fun|n=>n⟩
theorem Tryz.slCl:Go.Proofs.SlLaysE0.n41 Tryz.prog Tryz.slCl_ren:={
 mixed:=by kernel_rfl
 f41:=⟨Tryz.f221.name,by decide,Tryz.func221.trans (congrArg some (by kernel_rfl))⟩
 t4:=Tryz.underlying4
 a4:=Tryz.isAgg4
 z4:=Tryz.sizeOf4
 v4:=Tryz.zeroValue4
 t22:=Tryz.underlying64
 a22:=Tryz.isAgg64
 z22:=Tryz.sizeOf64
 v22:=Tryz.zeroValue64 }
open Go.RowKit Go.Lib in
theorem Tryz.slices_Clone (i0:TypeInfo) (z:Value) (size bytes:Nat) (hi:Tryz.prog.info? 170=some i0) (hz0:i0.zero=some z) (hz1:i0.size=size) (hz2:i0.bytes=bytes) (hzs:z.cells.size=size) (hsz:0<size) (z23:∀ w,(Go.sizeOf 170).run Tryz.prog w = .ok size w) (b off n c:Nat) (news:List Value) (w:World) (hl:news.length=n*size) (hn:n≤maxLen) (hbig:n*bytes≤140737488355328) (hc:∀ j u,news[j]? = some u→w.cell? ⟨b,off+j,none⟩=some u) (h1:∀ u∈news,u.oneCell'=true) :
  Calls Tryz.prog 221 #[.slice (some ⟨b,off,none⟩) n c] w fun e w'=>∃ v',e = .returned v'∧w'.ownsRow w.heap.size 170 size v' n news∧v' ≠ .slice none 0 0∧Below w.heap.size w w':=AnyE.slices_Clone Tryz.slCl i0 z size bytes hi hz0 hz1 hz2 hzs hsz z23 b off n c news w hl hn hbig hc h1
open Go.RowKit Go.Lib in
theorem Tryz.slices_Clone_nil (n c:Nat) (w:World) :
  Calls Tryz.prog 221 #[.slice none n c] w fun e w'=>e = .returned (.slice none 0 0)∧w'=w:=AnyE.slices_Clone_nil Tryz.slCl n c w
def Tryz.slLz_ren:Go.Shelf.Ren:=⟨fun|133=>230|128=>111|n=>n,fun|3=>3|4=>4|5=>5|9=>9|46=>98|51=>170|n=>n,fun|n=>n⟩
theorem Tryz.slLz:Go.Proofs.Lays.n133 Tryz.prog Tryz.slLz_ren:={
 mixed:=by kernel_rfl
 f128:=Tryz.func111.trans (congrArg some (by kernel_rfl))
 f133:=Tryz.func230.trans (congrArg some (by kernel_rfl))
 t3:=Tryz.underlying3
 a3:=Tryz.isAgg3
 z3:=Tryz.sizeOf3
 v3:=Tryz.zeroValue3
 t4:=Tryz.underlying4
 a4:=Tryz.isAgg4
 z4:=Tryz.sizeOf4
 v4:=Tryz.zeroValue4
 t5:=Tryz.underlying5
 a5:=Tryz.isAgg5
 z5:=Tryz.sizeOf5
 v5:=Tryz.zeroValue5
 t9:=Tryz.underlying9
 a9:=Tryz.isAgg9
 z9:=Tryz.sizeOf9
 v9:=Tryz.zeroValue9
 t46:=Tryz.underlying98
 a46:=Tryz.isAgg98
 z46:=Tryz.sizeOf98
 v46:=Tryz.zeroValue98
 t51:=Tryz.underlying170
 a51:=Tryz.isAgg170
 z51:=Tryz.sizeOf170
 v51:=Tryz.zeroValue170 }
theorem Tryz.bits_LeadingZeros32 (x:Int) (w:World) (h0:0≤x) (h1:x≤4294967295) :
  Calls Tryz.prog 230 #[.int .u32 x] w fun e w'=>e = .returned (.int .i64 (32-(Lib.bitLen x.toNat:Int)))∧w'=w:=Any.bits_LeadingZeros32 Tryz.slLz x w h0 h1
end Go.Proofs
namespace Go.Proofs.YtdnogmanbdgadaaGreatDoor
namespace Wd
open Go.RowKit Lw

theorem quiet_more {P:Program} {f:FuncId} {args:Array Value} {w:World} {n:Nat} {v:Value} (h:∀ w:World,Calls P f args w fun e w'=>e = .returned v ∧ ∃ m,w'=w.drewN m) :
  Calls P f args (w.drewN n) fun e w''=>e = .returned v ∧ ∃ m,w''=w.drewN m :=
 (h (w.drewN n)).mono fun _ _ ⟨he,m,hm⟩=>⟨he,n+m,by rw[hm];simp only[World.drewN,Nat.add_assoc]⟩
theorem quiet_add_more {P:Program} {f:FuncId} {args:Array Value} {w:World} {a n:Nat} {v:Value} (h:∀ w:World,Calls P f args w fun e w'=>e = .returned v ∧ ∃ m,w'=w.drewN m) :
  Calls P f args (w.drewN (a+n)) fun e w''=>e = .returned v ∧ ∃ m,w''=w.drewN (a+m) :=
 (h (w.drewN (a+n))).mono fun _ _ ⟨he,m,hm⟩=>⟨he,n+m,by rw[hm];simp only[World.drewN,Nat.add_assoc]⟩
theorem sz4 (w:World):(sizeOf 170).run Tryz.prog w = .ok 1 w:=by
 obtain⟨i,hi,hzz⟩:=Option.map_eq_some_iff.1 info4
 simp only[Prod.mk.injEq] at hzz
 have c:Tryz.prog.cellsOf 170=1:=by kernel_rfl
 rw[run_sizeOf _ hi,c]
theorem clone_walk (l:List Nat) (A:Option Addr) (n cap:Nat) (w:World) (hA:Lim w A n cap l) (h0:0<n) :
  Calls Tryz.prog 221 #[.slice A n cap] w fun e w'=>∃ V,e = .returned V∧OwnL w' w.heap.size V l∧Below w.heap.size w w':=by
 obtain⟨i,hi,hzz⟩:=Option.map_eq_some_iff.1 info4
 simp only[Prod.mk.injEq] at hzz
 obtain⟨hz,hs,hb⟩:=hzz
 have la:=hA.len
 have sa:=hA.sm
 obtain⟨b,off,rfl,_,r⟩:=hA.row h0
 refine(Tryz.slices_Clone i _ 1 4 hi hz hs hb rfl (by decide) sz4 b off n cap (us l) w (by simp[us,la]) (by unfold maxLen;omega) (by omega) (fun j u hu=>r j u hu) (fun u hu=>by obtain⟨x,_,rfl⟩:=List.mem_map.1 hu;rfl)).mono ?_
 rintro e w' ⟨v',rfl,ho,_,hbl⟩
 rw[← la] at ho
 exact⟨v',rfl,ho,hbl⟩
end Wd
namespace Wd
open Go.RowKit Lw

theorem sz4i:(Tryz.prog.info? 170).map (·.size)=some 1:=by kernel_rfl
theorem us_len (L:List Nat):(us L).length=L.length:=by simp[us]
theorem us_one (L:List Nat):∀ v∈us L,v.oneCell'=true:=fun u hu=>by obtain⟨x,_,rfl⟩:=List.mem_map.1 hu;rfl
theorem row_src {w:World} {g:Nat} {L:List Nat} (h:Row w g L):∀ i x,(us L)[i]? = some x→w.cell? ((⟨g,0,none⟩:Addr).add i)=some x:=fun i x hx=>by
 have hi:i<L.length:=by have:=(List.getElem?_eq_some_iff.1 hx).1;simpa [us] using this
 have e:(⟨g,0,none⟩:Addr).add i=⟨g,i,none⟩:=by simp[Addr.add];omega
 rw[e,h.cell hi]
 simpa [us,hi] using hx
theorem below_grown {w w':World} (h:Below w.heap.size w w') (row:Option Nat):w.grownBy w' row:=⟨h.os,h.tape,h.output,h.size,fun k hk _=>h.block k hk⟩
theorem row_copy {w:World} {g:Nat} {F:List Nat} {cur:Array Value} (hg:w.heap[g]? = some (.cells cur 170 (0,0))) (e:cur.toList.take F.length=us F) (j n:Nat) (r:List Nat) (hr:r.length=n+1) (hj:j+n+1≤F.length) :
  Row (w.setRow g (cur.toList.take j++(us r++cur.toList.drop (j+(us r).length))).toArray) g (put F j n r):=by
 have hlr:(us r).length=n+1:=by simp[us,hr]
 have hcl:F.length≤cur.toList.length:=by
  have:=congrArg List.length e
  simp only[List.length_take,us,List.length_map] at this
  omega
 refine⟨_,setRow_heap w g _ _ _ _ hg,?_⟩
 rw[List.toList_toArray,put_len hj hr,hlr]
 have h1:cur.toList.take j=us (F.take j):=by
  have:=congrArg (List.take j) e
  rwa [List.take_take,Nat.min_eq_left (by omega),us,← List.map_take] at this
 have h2:(cur.toList.drop (j+(n+1))).take (F.length-(j+(n+1)))=us (F.drop (j+(n+1))):=by
  have:=congrArg (List.drop (j+(n+1))) e
  rwa [List.drop_take,us,← List.map_drop] at this
 have hlj:(us (F.take j)).length=j:=by simp[us];omega
 have t1:(us (F.take j)).take F.length=us (F.take j):=List.take_of_length_le (by omega)
 have t2:(us r).take (F.length-j)=us r:=List.take_of_length_le (by omega)
 rw[h1,List.take_append,List.take_append,hlj,hlr,t1,t2,show F.length-j-(n+1)=F.length-(j+(n+1)) by omega,h2]
 simp only[us,put,List.map_append,Nat.add_assoc]
theorem row_copy_grown (w:World) (g:Nat) (cs:Array Value):w.grownBy (w.setRow g cs) (some g) :=
 ⟨rfl,rfl,rfl,by simp[World.setRow],fun k _ hk=>setRow_other w g k cs (fun e=>hk (by rw[e]))⟩
structure StepPost (w:World) (g j n:Nat) (F v:List Nat) (e:Ending) (w':World):Prop where
 e:e = .returned (.int .u32 ((val (win F j n)/val v:Nat):Int))
 r:∃ r,r.length=n+1∧Lb r∧val r=val (win F j n) % val v∧Row w' g (put F j n r)
 g:w.grownBy w' (some g)
theorem step_walk (F v:List Nat) (g j cu p cv:Nat) (D:Option Addr) (w:World) (hF:Row w g F) (bF:Lb F) (hj:j+(p+1)+1≤F.length) (hcu:p+1+1≤cu) (hn:p+1+1≤1000000) (hD:Lim w D (p+1) cv v) (hne:∀ b off,D=some ⟨b,off,none⟩→b≠g) (hy:∀ h:p<v.length,0<v[p]) (ht:val (win F j (p+1))<val v*4294967296) :
  Calls Tryz.prog 232 #[.slice (some ⟨g,j,none⟩) (p+1+1) cu, .slice D (p+1) cv] w (StepPost w g j (p+1) F v):=by
 have lv:=hD.len
 have hUl:Lim w (some ⟨g,j,none⟩) (p+1+1) cu (win F j (p+1)):=hF.lim bF j (p+1+1) (cap:=cu) (by omega) hcu hn
 have lU:=win_len hj
 have bU:=lb_win bF j (p+1)
 have hy:=hy (by omega)
 have hQ:=digit_lt ht
 have hV0:0<val v:=by
  rcases Nat.eq_zero_or_pos (val v) with h|h
  ·rw[h] at ht;omega
  ·exact h
 have c1:=hUl.cell (k:=p+1) (by show p+1<(win F j (p+1)).length;omega)
 have c2:=hUl.cell (k:=p) (by show p<(win F j (p+1)).length;omega)
 obtain⟨bD,oD,rfl,hDlt, -⟩:=hD.row (by omega)
 have c3:=hD.cell (k:=p) (by omega)
 have gg:=guess_ge (u:=win F j (p+1)) (v:=v) (n:=p+1) (by omega) lU lv bU hD.lb hy
 have b1:(win F j (p+1))[p+1]'(by omega)<4294967296:=lb_get bU (by omega)
 have b2:(win F j (p+1))[p]'(by omega)<4294967296:=lb_get bU (by omega)
 have b3:=lb_get hD.lb (k:=p) (by omega)
 change w.cell? ⟨g,j+(p+1),none⟩=some (.int .u32 ((win F j (p+1))[p+1]:Int)) at c1
 change w.cell? ⟨g,j+p,none⟩=some (.int .u32 ((win F j (p+1))[p]:Int)) at c2
 simp only[Nat.add_sub_cancel] at gg
 generalize (win F j (p+1))[p+1]'(by omega)=un at c1 gg b1
 generalize (win F j (p+1))[p]'(by omega)=um at c2 gg b2
 generalize v[p]'(by omega)=vm at c3 gg b3 hy
 have HF:=Lib.hid hF
 have HD:=Lib.hid hD
 have HU:=Lib.hid hUl
 have e1:IntKind.i64.wrap ((p:Int)+1-1)=(p:Int):=by rw[IntWalk.i64_in _ (by omega)];omega
 clear hF hD hUl
 obtain⟨cur,hcur,ecur⟩:=HF.out
 have gF:=HF.out.lt
 have hcs:F.length≤cur.size:=by
  have:=congrArg List.length ecur
  simp only[List.length_take,us_len,Array.length_toList] at this
  omega
 have HCU:=Lib.hid hcur
 have HCE:=Lib.hid ecur
 clear hcur ecur HF
 have HT:=Lib.hid ht
 clear ht
 by_cases h:un<vm
 ·have dv:=fun w=>div32 un um vm w h b2 b3
  have hq:=quo_lt h b2
  generalize (un*4294967296+um)/vm=G at dv gg hq
  generalize (un*4294967296+um) % vm=G2 at dv
  have hi:(un:Int)<(vm:Int):=by omega
  go_enter Tryz.func232,Tryz.ntmps232
  go_wp2
  go_quiet (fail)
  go_wp2
  go_quiet ((go_at_call 245;first|exact quiet_more dv|exact quiet_add_more dv))
  go_wp2
  go_loopw [6,7] (fun gu _ wr=>∃ q:Nat,gu = .int .u32 (q:Int)∧val (win F j (p+1))/val v≤q∧q<4294967296∧Below w.heap.size w wr) (fun gu _ _=>(intOf gu).toNat)
  case atStart=>exact⟨G,rfl,gg,hq,below_drewN (below_drewN (Below.refl _ w) _) _⟩
  case round =>
   clear c1 c2 c3 gg
   obtain⟨q,rfl,hqq,hq,hB⟩:=hrel
   have cl:=clone_walk _ _ _ _ wr (HU.out.below hB) (by omega)
   have hs1:=hB.size
   have HB:=Lib.hid hB
   clear hB
   by_cases hle:q*val v≤val (win F j (p+1))
   ·have dq:=decide_eq_true hle
    have Hle:=Lib.hid hle
    have Hqq:=Lib.hid hqq
    clear hle hqq
    go_wp2_with (first|(go_at_call 221;refine cl.mono ?_;rintro e w1 ⟨V,rfl,hO,hb1⟩;clear cl;obtain⟨g1,cap1,hV,hc1,hg1,hR1⟩:=own_row hO (by rw[lU];omega);rw[lU] at hV;subst hV;rw[lU] at hc1;have hB1:=below_then HB.out hb1;have sw:=subtract_walk (win F j (p+1)) v g1 cap1 (p+1) cv q (some ⟨bD,oD,none⟩) w1 hR1 bU lU (HD.out.below hB1) (fun b off e=>by cases e;omega) hq hn;have HB1:=Lib.hid hB1;clear hB1 hb1 hO hR1)|(go_at_call 246;refine sw.mono ?_;clear sw;rintro e w2 ⟨rfl,⟨U',hr1,hr2,hr3,hr4⟩,hgr⟩;rw[dq];have hB2:=HB1.out.grown hgr HB1.out.size (fun k e=>by cases e;omega);have hc2:=(hB2.block g gF).trans HCU.out;have HC2:=Lib.hid hc2;have HB2:=Lib.hid hB2;have HR1:=Lib.hid hr1;have HR4:=Lib.hid hr4;clear hgr hB2 hc2 hr1 hr4)|(with_reducible refine wpList_copy_own rfl (.tmp 44) (.tmp 45) 64 64 rfl 170 Tryz.underlying64 sz4i g j (p+1+1) cu ⟨g1,0,none⟩ (p+1+1) cap1 rfl rfl cur 170 HC2.out (us U') (by rw[us_len,hr2,lU];exact(Nat.min_self _).symm) (row_src HR1.out) (by rw[us_len,hr2,lU];omega) (us_one U') ?_))
    obtain⟨e1,e2⟩:=quo_fin hV0 Hqq.out (HR4.out Hle.out)
    refine bodyPost_ret (results_tmp rfl _ _ _) rfl ⟨by rw[← e1];rfl,⟨U',by rw[hr2,lU],hr3,e2,?_⟩,(below_grown HB2.out (some g)).trans (row_copy_grown _ _ _)⟩
    have:=row_copy (g:=g) (w:=w2) HC2.out HCE.out j (p+1) U' (by rw[hr2,lU]) hj
    rw[us_len,hr2,lU] at this
    exact this
   ·have dq:=decide_eq_false hle
    have q1:1≤q:=by
     rcases Nat.eq_zero_or_pos q with h0|h0
     ·exact absurd (by rw[h0];omega) hle
     ·exact h0
    have hq2:val (win F j (p+1))/val v≤q-1:=by
     have:¬ q≤val (win F j (p+1))/val v:=fun h=>hle ((le_quo hV0).2 h)
     omega
    have e2:((q-1:Nat):Int)=(q:Int)-1:=by omega
    have E2:=Lib.hid e2
    have Hq2:=Lib.hid hq2
    have k1:(1:Int)≤(q:Int):=by omega
    clear hle hqq e2 hq2
    go_wp2_with (first|(go_at_call 221;refine cl.mono ?_;rintro e w1 ⟨V,rfl,hO,hb1⟩;clear cl;obtain⟨g1,cap1,hV,hc1,hg1,hR1⟩:=own_row hO (by rw[lU];omega);rw[lU] at hV;subst hV;rw[lU] at hc1;have hB1:=below_then HB.out hb1;have sw:=subtract_walk (win F j (p+1)) v g1 cap1 (p+1) cv q (some ⟨bD,oD,none⟩) w1 hR1 bU lU (HD.out.below hB1) (fun b off e=>by cases e;omega) hq hn;have HB1:=Lib.hid hB1;clear hB1 hb1 hO hR1)|(go_at_call 246;refine sw.mono ?_;clear sw;rintro e w2 ⟨rfl, -,hgr⟩;rw[dq];have hB2:=HB1.out.grown hgr HB1.out.size (fun k e=>by cases e;omega);have HB2:=Lib.hid hB2;clear hgr hB2))
    go_roundw
    case rel=>exact⟨q-1,by rw[E2.out],Hq2.out,by omega,HB2.out⟩
    case measure=>simp[intOf];omega
 ·have hi:¬ (un:Int)<(vm:Int):=by omega
  go_enter Tryz.func232,Tryz.ntmps232
  go_wp2
  go_quiet (fail)
  go_wp2
  go_loopw [6,7] (fun gu _ wr=>∃ q:Nat,gu = .int .u32 (q:Int)∧val (win F j (p+1))/val v≤q∧q<4294967296∧Below w.heap.size w wr) (fun gu _ _=>(intOf gu).toNat)
  case atStart=>exact⟨4294967295,rfl,by omega,by omega,below_drewN (Below.refl _ w) _⟩
  case round =>
   clear c1 c2 c3 gg
   obtain⟨q,rfl,hqq,hq,hB⟩:=hrel
   have cl:=clone_walk _ _ _ _ wr (HU.out.below hB) (by omega)
   have hs1:=hB.size
   have HB:=Lib.hid hB
   clear hB
   by_cases hle:q*val v≤val (win F j (p+1))
   ·have dq:=decide_eq_true hle
    have Hle:=Lib.hid hle
    have Hqq:=Lib.hid hqq
    clear hle hqq
    go_wp2_with (first|(go_at_call 221;refine cl.mono ?_;rintro e w1 ⟨V,rfl,hO,hb1⟩;clear cl;obtain⟨g1,cap1,hV,hc1,hg1,hR1⟩:=own_row hO (by rw[lU];omega);rw[lU] at hV;subst hV;rw[lU] at hc1;have hB1:=below_then HB.out hb1;have sw:=subtract_walk (win F j (p+1)) v g1 cap1 (p+1) cv q (some ⟨bD,oD,none⟩) w1 hR1 bU lU (HD.out.below hB1) (fun b off e=>by cases e;omega) hq hn;have HB1:=Lib.hid hB1;clear hB1 hb1 hO hR1)|(go_at_call 246;refine sw.mono ?_;clear sw;rintro e w2 ⟨rfl,⟨U',hr1,hr2,hr3,hr4⟩,hgr⟩;rw[dq];have hB2:=HB1.out.grown hgr HB1.out.size (fun k e=>by cases e;omega);have hc2:=(hB2.block g gF).trans HCU.out;have HC2:=Lib.hid hc2;have HB2:=Lib.hid hB2;have HR1:=Lib.hid hr1;have HR4:=Lib.hid hr4;clear hgr hB2 hc2 hr1 hr4)|(with_reducible refine wpList_copy_own rfl (.tmp 44) (.tmp 45) 64 64 rfl 170 Tryz.underlying64 sz4i g j (p+1+1) cu ⟨g1,0,none⟩ (p+1+1) cap1 rfl rfl cur 170 HC2.out (us U') (by rw[us_len,hr2,lU];exact(Nat.min_self _).symm) (row_src HR1.out) (by rw[us_len,hr2,lU];omega) (us_one U') ?_))
    obtain⟨e1,e2⟩:=quo_fin hV0 Hqq.out (HR4.out Hle.out)
    refine bodyPost_ret (results_tmp rfl _ _ _) rfl ⟨by rw[← e1];rfl,⟨U',by rw[hr2,lU],hr3,e2,?_⟩,(below_grown HB2.out (some g)).trans (row_copy_grown _ _ _)⟩
    have:=row_copy (g:=g) (w:=w2) HC2.out HCE.out j (p+1) U' (by rw[hr2,lU]) hj
    rw[us_len,hr2,lU] at this
    exact this
   ·have dq:=decide_eq_false hle
    have q1:1≤q:=by
     rcases Nat.eq_zero_or_pos q with h0|h0
     ·exact absurd (by rw[h0];omega) hle
     ·exact h0
    have hq2:val (win F j (p+1))/val v≤q-1:=by
     have:¬ q≤val (win F j (p+1))/val v:=fun h=>hle ((le_quo hV0).2 h)
     omega
    have e2:((q-1:Nat):Int)=(q:Int)-1:=by omega
    have E2:=Lib.hid e2
    have Hq2:=Lib.hid hq2
    have k1:(1:Int)≤(q:Int):=by omega
    clear hle hqq e2 hq2
    go_wp2_with (first|(go_at_call 221;refine cl.mono ?_;rintro e w1 ⟨V,rfl,hO,hb1⟩;clear cl;obtain⟨g1,cap1,hV,hc1,hg1,hR1⟩:=own_row hO (by rw[lU];omega);rw[lU] at hV;subst hV;rw[lU] at hc1;have hB1:=below_then HB.out hb1;have sw:=subtract_walk (win F j (p+1)) v g1 cap1 (p+1) cv q (some ⟨bD,oD,none⟩) w1 hR1 bU lU (HD.out.below hB1) (fun b off e=>by cases e;omega) hq hn;have HB1:=Lib.hid hB1;clear hB1 hb1 hO hR1)|(go_at_call 246;refine sw.mono ?_;clear sw;rintro e w2 ⟨rfl, -,hgr⟩;rw[dq];have hB2:=HB1.out.grown hgr HB1.out.size (fun k e=>by cases e;omega);have HB2:=Lib.hid hB2;clear hgr hB2))
    go_roundw
    case rel=>exact⟨q-1,by rw[E2.out],Hq2.out,by omega,HB2.out⟩
    case measure=>simp[intOf];omega
end Wd
namespace Wd
open Go.RowKit Lw

theorem index_nil (A:Option Addr) (cap:Nat) (f:Value) (w:World) :
  Calls Tryz.prog 253 #[.slice A 0 cap,f] w fun e w'=>e = .returned (.int .i64 (-1))∧w=w':=by
 go_enter Tryz.func253,Tryz.ntmps253
 go_wp2
 go_loopw [8] (fun i wr=>i = .int .i64 0∧wr=w) (fun _ _=>0)
 case atStart=>exact⟨rfl,rfl⟩
 case round =>
  obtain⟨rfl,rfl⟩:=hrel
  go_wp2
  exact bodyPost_ret (results_tmp rfl _ _ _) rfl ⟨rfl,rfl⟩
theorem contains_nil (A:Option Addr) (cap:Nat) (f:Value) (w:World) :
  Calls Tryz.prog 247 #[.slice A 0 cap,f] w fun e w'=>e = .returned (.bool false)∧w=w':=by
 go_enter Tryz.func247,Tryz.ntmps247
 go_wp2_with (go_at_call 253;refine(index_nil _ _ _ _).mono ?_;rintro e w' ⟨rfl,rfl⟩)
 exact bodyPost_ret (results_tmp rfl _ _ _) rfl ⟨rfl,rfl⟩
theorem from_run (a:Option Addr) (n cap:Nat) (h:n≤cap) (w:World) :
  (Instr.slice 64 (.slice a n cap) (some (.int .i64 0)) none none).run Tryz.prog w = .ok (.slice a n cap) w:=by
 rw[run_slice_l w _ a n cap el_us .i64 0 (by omega) (by omega),sz_us]
 have e:sliced a 0 n cap 1 = .slice a n cap:=by
  unfold sliced
  rw[Nat.sub_zero,Nat.sub_zero]
  cases a <;> simp[addr_zero]
 simp only[Result.andThen]
 exact congrArg (Result.ok · w) e
theorem and_mod (T s:Nat) (hT:T<18446744073709551616) (hs:s≤31):bits BinOp.and IntKind.u64 (T:Int) ((2:Int) ^ s-1)=((T % 2 ^ s:Nat):Int):=by
 have h31:(2:Nat) ^ s≤2147483648:=Nat.pow_le_pow_right (show 0<2 by decide) hs
 have hp:0<(2:Nat) ^ s:=Nat.two_pow_pos s
 have e:(2:Int) ^ s-1=((2 ^ s-1:Nat):Int):=by
  have:((2 ^ s:Nat):Int)=(2:Int) ^ s:=by rw[Int.natCast_pow];rfl
  rw[← this];omega
 rw[e,u64_and_nat _ _ hT (by omega),Nat.and_two_pow_sub_one_eq_mod]
end Wd
end Go.Proofs.YtdnogmanbdgadaaGreatDoor
