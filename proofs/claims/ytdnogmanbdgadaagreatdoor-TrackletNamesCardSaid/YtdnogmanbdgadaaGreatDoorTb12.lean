/-
  Lemmas and walks, texts joined: WCheck, WCheck1, WArr, WMulPl, WTimes, WMul.
-/
import Derived.Deep.RegionHeld3
import Derived.Test.YtdnogmanbdgadaaGreatDoorTb11
set_option linter.unusedSimpArgs false
set_option linter.unusedVariables false
set_option maxRecDepth 100000
set_option maxHeartbeats 40000000
namespace Go.Proofs.YtdnogmanbdgadaaGreatDoor
namespace Wd
open Go.RowKit Lw

structure WRow (w:World) (b n:Nat) (Z:Nat→Int):Prop where
 lt:b<w.heap.size
 row:∀ k,k<n → ∃ a m cap,w.cell? ⟨b,k*2,none⟩=some (.bool (decide (Z k<0)))∧w.cell? ⟨b,k*2+1,none⟩=some (.slice a m cap)∧Lim w a m cap (canon (Z k).natAbs)∧m≤4096
theorem canon_last {n m:Nat} (h:(canon n).length=m) (hm:0<m):(canon n)[m-1]'(by omega)≠0:=by
 have hne:canon n ≠ []:=List.ne_nil_of_length_pos (by omega)
 have:=(canon_spec n).2.2.2 hne
 rw[List.getLast_eq_getElem] at this
 subst h
 exact this
theorem check_walk (Z:Nat→Int) (b n cap:Nat) (w:World) (hR:WRow w b n Z) (hn:n≤100) :
  Calls Tryz.prog 137 #[.slice (some ⟨b,0,none⟩) n cap] w fun e w'=>e = .returned (.int .i64 0)∧Below w.heap.size w w':=by
 have HR:=Lib.hid hR
 clear hR
 go_enter Tryz.func137,Tryz.ntmps137
 go_wp2
 go_loopw [8] (fun i wr=>∃ k:Nat,k≤n∧i = .int .i64 k∧Below w.heap.size w wr) (fun i _=>n-(intOf i).toNat)
 case atStart=>exact⟨0,by omega,rfl,Below.refl _ _⟩
 case round =>
  obtain⟨k,hk,rfl,hB⟩:=hrel
  by_cases hlt:k<n
  ·obtain⟨a,m,c,ha0,hb0,hl0,hm⟩:=HR.out.row k hlt
   have ha:=(hB.cell (p:=⟨b,k*2,none⟩) HR.out.lt).trans ha0
   have hb:=(hB.cell (p:=⟨b,k*2+1,none⟩) HR.out.lt).trans hb0
   have hl:=hl0.below hB
   have hlen:=hl.len
   have Hl:=Lib.hid hl
   have i1:(k:Int)<(n:Int):=by omega
   clear hl0 ha0 hb0 hl
   have m1:¬ (4096:Int)<(m:Int):=by omega
   have fin:∀ vs,Below w.heap.size w (wr.alloc (.cells vs 66)):=fun vs=>hB.alloc hB.size _
   have Fin:=Lib.hid fin
   clear fin
   by_cases m0:m=0
   ·subst m0
    have zz:decide (Z k<0)=false:=by
     have:=(canon_spec (Z k).natAbs).2.2.1.1 (List.length_eq_zero_iff.1 hlen)
     exact decide_eq_false (by omega)
    rw[zz] at ha
    clear zz hlen m1 hm
    go_wp2_with fail
    go_roundw
    case rel=>exact⟨k+1,by omega,by go_num,Fin.out _⟩
    case measure=>simp[intOf];omega
   ·have mp:0<m:=by omega
    obtain⟨b',off',rfl, -, -⟩:=Hl.out.row mp
    have kz:=canon_last hlen mp
    have hl2:∀ vs,(wr.alloc (.cells vs 66)).cell? ⟨b',off'+(m-1),none⟩=some (.int .u32 ((canon (Z k).natAbs)[m-1]'(by omega):Int)):=fun vs=>(Hl.out.below ((Below.refl _ wr).alloc (Nat.le_refl _) _)).cell (by omega)
    generalize (canon (Z k).natAbs)[m-1]'(by omega)=q at kz hl2
    have q0:¬ (q:Int)=0:=by omega
    have e1:IntKind.i64.wrap ((m:Int)-1)=((m-1:Nat):Int):=by rw[IntWalk.i64_in _ (by omega)];omega
    have k1:(0:Int)<(m:Int):=by omega
    have k2:((m-1:Nat):Int)<(m:Int):=by omega
    have k3:¬ (m:Int)=0:=by omega
    go_wp2_with (refine wpList_store_new rfl _ (.tmp 4) (.tmp 11) rfl _ _ rfl rfl infoW rfl ?_ ?_;simp[Value.oneCell'])
    go_roundw
    case rel=>exact⟨k+1,by omega,by go_num,Fin.out _⟩
    case measure=>simp[intOf];omega
  ·obtain rfl:k=n:=by omega
   go_wp2
   exact bodyPost_ret (results_tmp rfl _ _ _) rfl ⟨rfl,hB⟩
end Wd
namespace Wd
open Go.RowKit Lw

theorem check1_walk (V:Value) (z:Int) (w:World) (hV:Wide 0 w V z) (hz:(canon z.natAbs).length≤4096) :
  Calls Tryz.prog 142 #[V] w fun e w'=>e = .returned (.int .i64 0)∧Below w.heap.size w w':=by
 obtain⟨a,m,c,rfl,hL, -⟩:=hV
 have hB:=((Below.refl w.heap.size w).alloc (Nat.le_refl _) (.cells #[.bool (decide (z<0)), .slice a m c] 66)).alloc (by simp) (.cells #[.bool (decide (z<0)), .slice a m c] 66)
 have hR:WRow ((w.alloc (.cells #[.bool (decide (z<0)), .slice a m c] 66)).alloc (.cells #[.bool (decide (z<0)), .slice a m c] 66)) (w.heap.size+1) 1 (fun _=>z):=by
  have r:=rangeAt_new (w.alloc (.cells #[.bool (decide (z<0)), .slice a m c] 66)) [.bool (decide (z<0)), .slice a m c] 66
  rw[World.size_alloc] at r
  refine⟨by simp,fun k hk=>⟨a,m,c,?_,?_,hL.below hB,by have:=hL.len;omega⟩⟩
  ·obtain rfl:k=0:=by omega
   exact r 0 _ rfl
  ·obtain rfl:k=0:=by omega
   exact r 1 _ rfl
 have HC:=Lib.hid (check_walk _ _ 1 1 _ hR (by omega))
 have Bt:=Lib.hid hB
 clear hR hL hB
 go_enter Tryz.func142,Tryz.ntmps142
 go_wp2_with fail
 refine HC.out.mono ?_
 rintro e w' ⟨rfl,hb⟩
 have hB2:=Lib.hid (below_then Bt.out hb)
 clear hb
 go_wp2
 exact bodyPost_ret (results_tmp rfl _ _ _) rfl ⟨rfl,hB2.out⟩
end Wd
namespace Wd
open Go.RowKit Lw

def Arr (w:World) (g:Nat) (L:List Nat):Prop:=w.heap[g]? = some (.cells (us L).toArray 170 (0,0))
theorem Arr.new (w:World) (L:List Nat):Arr (w.alloc (.cells (us L).toArray 170)) w.heap.size L:=by
 unfold Arr
 exact heap_alloc_new w _
theorem Arr.lt {w:World} {g:Nat} {L:List Nat} (h:Arr w g L):g<w.heap.size:=lt_of_block h
theorem Arr.cell {w:World} {g:Nat} {L:List Nat} (h:Arr w g L) {k:Nat} (hk:k<L.length):w.cell? ⟨g,k,none⟩=some (.int .u32 (L[k]:Int)):=by
 unfold Arr at h
 simp[World.cell?,h,hk]
theorem Arr.free {w:World} {g:Nat} {L:List Nat} (h:Arr w g L) (k:Nat):w.frozen? ⟨g,k,none⟩=false:=by
 unfold Arr at h
 simp[World.frozen?,h]
theorem Arr.set {w:World} {g:Nat} {L:List Nat} (h:Arr w g L) (k v:Nat):Arr (w.setCell ⟨g,k,none⟩ (.int .u32 (v:Int))) g (L.set k v):=by
 have hlt:=h.lt
 unfold Arr at h ⊢
 have h':w.heap[g] = .cells (us L).toArray 170 (0,0):=by simpa [Array.getElem?_eq_getElem hlt] using h
 show (w.heap.modify g _)[g]? = _
 rw[Array.getElem?_eq_getElem (by simpa using hlt),Array.getElem_modify_self,h']
 simp[us,Array.set!_eq_setIfInBounds,List.map_set]
theorem Arr.other {w:World} {g:Nat} {L:List Nat} (h:Arr w g L) {p:Addr} (hp:p.block≠g) (v:Value):Arr (w.setCell p v) g L:=by
 unfold Arr at h ⊢
 rw[Below.heap_setCell _ _ _ _ (by simpa using Ne.symm hp)]
 exact h
theorem Arr.below {w w':World} {g:Nat} {L:List Nat} (h:Arr w g L) (hb:Below w.heap.size w w'):Arr w' g L:=by
 have:=hb.block g h.lt
 unfold Arr at h ⊢
 rw[this];exact h
theorem Arr.lim {w:World} {g:Nat} {L:List Nat} (h:Arr w g L) (hl:Lb L) {cap:Nat} (hc:L.length≤cap) (hs:L.length≤1000000):Lim w (some ⟨g,0,none⟩) L.length cap L :=
 ⟨rfl,hl,hc,hs,fun _=>⟨g,0,rfl,h.lt,fun j v hv=>by
  have hj:j<L.length:=by have:=(List.getElem?_eq_some_iff.1 hv).1;simpa [us] using this
  rw[Nat.zero_add,h.cell hj]
  simpa [us,hj] using hv⟩⟩
theorem info4:(Tryz.prog.info? 170).map (fun i=>(i.zero,i.size,i.bytes))=some (some (.int .u32 0),1,4):=by kernel_rfl
theorem made_us (n:Nat):madeCells #[.int .u32 0] n=(us (List.replicate n 0)).toArray:=by
 apply Array.ext
 ·simp[size_madeCells,us]
 ·intro i h1 h2
  have e:i % 1=0:=Nat.mod_one i
  simp[madeCells,us,e]
theorem make_us (n:Nat) (hn:n≤1000000) (w:World):(Instr.makeSlice 64 (.int .i64 (n:Int)) (.int .i64 (n:Int))).run Tryz.prog w = .ok (.slice (some ⟨w.heap.size,0,none⟩) n n) (w.alloc (.cells (us (List.replicate n 0)).toArray 170)):=by
 obtain⟨i,hi,hzz⟩:=Option.map_eq_some_iff.1 info4
 simp only[Prod.mk.injEq] at hzz
 obtain⟨hz,hs,hb⟩:=hzz
 have h:=run_make (P:=Tryz.prog) w 64 170 i _ Tryz.underlying64 hi hz .i64 .i64 (n:Int) (n:Int) (by omega) (Int.le_refl _) (by rw[hb];omega) (by omega)
 rw[hs,Int.toNat_natCast,Nat.mul_one] at h
 rw[← made_us]
 exact h
def nu (n:Nat):Array Value:=(us (List.replicate n 0)).toArray
theorem Arr.nu (w:World) (n:Nat):Arr (w.alloc (.cells (nu n) 170)) w.heap.size (List.replicate n 0):=Arr.new w _
theorem make_nu (n:Nat) (hn:n≤1000000) (w:World):(Instr.makeSlice 64 (.int .i64 (n:Int)) (.int .i64 (n:Int))).run Tryz.prog w = .ok (.slice (some ⟨w.heap.size,0,none⟩) n n) (w.alloc (.cells (nu n) 170)):=make_us n hn w
end Wd
namespace Wd

theorem val_set:∀ (L:List Nat) (j v:Nat) (h:j<L.length),val (L.set j v)+4294967296 ^ j*L[j]=val L+4294967296 ^ j*v
 | x::L,0,v,_=>by simp only[List.set_cons_zero,val,List.getElem_cons_zero,Nat.pow_zero];omega
 | x::L,j+1,v,h=>by
  have ih:=val_set L j v (by simpa using h)
  simp only[List.set_cons_succ,val,List.getElem_cons_succ]
  rw[Nat.pow_succ,Nat.mul_comm (4294967296 ^ j) 4294967296,Nat.mul_assoc,Nat.mul_assoc]
  omega
theorem val_take:∀ (l:List Nat) (k:Nat) (h:k<l.length),val (l.take (k+1))=val (l.take k)+4294967296 ^ k*l[k]
 | x::l,0,_=>by simp[val]
 | x::l,k+1,h=>by
  have ih:=val_take l k (by simpa using h)
  simp only[List.take_succ_cons,val,List.getElem_cons_succ]
  rw[ih,Nat.pow_succ,Nat.mul_comm (4294967296 ^ k) 4294967296,Nat.mul_assoc]
  omega
theorem lb_get {l:List Nat} (h:Lb l) {k:Nat} (hk:k<l.length):l[k]<4294967296:=h _ (List.getElem_mem hk)
theorem lb_set {l:List Nat} (h:Lb l) (k v:Nat) (hv:v<4294967296):Lb (l.set k v):=fun x hx=>by
 rcases List.mem_or_eq_of_mem_set hx with g|g
 ·exact h x g
 ·rw[g];exact hv
structure TOut (a b L:List Nat) (i:Nat):Prop where
 len:L.length=a.length+b.length
 lb:Lb L
 v:val L=val (a.take i)*val b
 z:∀ j (h:j<L.length),i+b.length≤j→L[j]=0
structure TIn (a b L:List Nat) (i k c x:Nat):Prop where
 len:L.length=a.length+b.length
 lb:Lb L
 c1:c<4294967296
 v:val L+c*4294967296 ^ (i+k)=val (a.take i)*val b+x*(4294967296 ^ i*val (b.take k))
 z:∀ j (h:j<L.length),i+b.length≤j→L[j]=0
theorem TOut.zero (a b:List Nat):TOut a b (List.replicate (a.length+b.length) 0) 0 :=
 ⟨by simp,fun x hx=>by have:=List.eq_of_mem_replicate hx;omega,by rw[val_zeros _ fun x hx=>List.eq_of_mem_replicate hx];simp[val],fun j h _=>by simp⟩
theorem TOut.start {a b L:List Nat} {i:Nat} (h:TOut a b L i) (x:Nat):TIn a b L i 0 0 x :=
 ⟨h.len,h.lb,by omega,by rw[h.v];simp[val],h.z⟩
theorem prod_bd {x y c l:Nat} (hx:x<4294967296) (hy:y<4294967296) (hc:c<4294967296) (hl:l<4294967296):x*y≤18446744065119617025∧c+(x*y+l)<18446744073709551616:=by
 have:x*y≤4294967295*4294967295:=Nat.mul_le_mul (by omega) (by omega)
 omega
theorem TIn.step {a b L:List Nat} {i k c x:Nat} (h:TIn a b L i k c x) (hi:i<a.length) (hk:k<b.length) (hb:Lb b) (hx:x<4294967296) (hj:i+k<L.length) :
  TIn a b (L.set (i+k) ((c+(x*b[k]+L[i+k])) % 4294967296)) i (k+1) ((c+(x*b[k]+L[i+k]))/4294967296) x:=by
 have hv:=val_set L (i+k) ((c+(x*b[k]+L[i+k])) % 4294967296) hj
 have hp:=(prod_bd hx (lb_get hb hk) h.c1 (lb_get h.lb hj)).2
 refine⟨by simpa using h.len,lb_set h.lb _ _ (Nat.mod_lt _ (by decide)),by omega,?_,fun j hjl hge=>?_⟩
 ·rw[val_take b k hk]
  have hv2:=h.v
  generalize hL:L[i+k]=l at *
  generalize hy:b[k]=y at *
  generalize hq:(c+(x*y+l))=t at *
  have e:4294967296 ^ (i+(k+1))=4294967296 ^ (i+k)*4294967296:=by rw[← Nat.add_assoc,Nat.pow_succ]
  have e2:x*(4294967296 ^ i*(val (b.take k)+4294967296 ^ k*y))=x*(4294967296 ^ i*val (b.take k))+4294967296 ^ (i+k)*(x*y):=by
   rw[Nat.mul_add,Nat.mul_add,Nat.pow_add]
   congr 1
   rw[← Nat.mul_assoc (4294967296 ^ i),Nat.mul_left_comm]
  rw[e,e2]
  have e3:t/4294967296*(4294967296 ^ (i+k)*4294967296)+4294967296 ^ (i+k)*(t % 4294967296)=4294967296 ^ (i+k)*t:=by
   rw[Nat.mul_left_comm,← Nat.mul_add,Nat.mul_comm (t/4294967296),Nat.div_add_mod]
  have e4:4294967296 ^ (i+k)*t=c*4294967296 ^ (i+k)+4294967296 ^ (i+k)*(x*y)+4294967296 ^ (i+k)*l:=by
   rw[← hq,Nat.mul_add,Nat.mul_add,Nat.mul_comm _ c];omega
  omega
 ·rw[List.getElem_set_ne (by omega)]
  exact h.z j (by simpa using hjl) hge
theorem TIn.fin {a b L:List Nat} {i c:Nat} (hi:i<a.length) (h:TIn a b L i b.length c a[i]):TOut a b (L.set (i+b.length) c) (i+1):=by
 have hj:i+b.length<L.length:=by rw[h.len];omega
 have hv:=val_set L (i+b.length) c hj
 have hz:=h.z (i+b.length) hj (Nat.le_refl _)
 refine⟨by simpa using h.len,lb_set h.lb _ _ h.c1,?_,fun j hjl hge=>?_⟩
 ·have hv2:=h.v
  rw[List.take_length] at hv2
  rw[hz] at hv
  rw[val_take a i hi,Nat.add_mul,Nat.mul_comm (4294967296 ^ i),Nat.mul_assoc]
  rw[Nat.mul_comm c] at hv2
  omega
 ·rw[List.getElem_set_ne (by omega)]
  exact h.z j (by simpa using hjl) (by omega)
end Wd
namespace Wd
open Go.RowKit Lw

def FreshPost (w:World) (n:Nat) (p:List Nat→Prop) (e:Ending) (w':World):Prop :=
 ∃ L,e = .returned (.slice (some ⟨w.heap.size,0,none⟩) n n)∧L.length=n∧Lb L∧p L∧Arr w' w.heap.size L∧Below w.heap.size w w'
theorem times_walk (a b:List Nat) (A D:Option Addr) (na ca nb cb:Nat) (w:World) (hA:Lim w A na ca a) (hD:Lim w D nb cb b) (hn:na+nb≤1000000) :
  Calls Tryz.prog 139 #[.slice A na ca, .slice D nb cb] w (FreshPost w (na+nb) fun L=>val L=val a*val b):=by
 have la:=hA.len
 have lb:=hD.len
 have HA:=Lib.hid hA
 have HD:=Lib.hid hD
 clear hA hD
 have hmk:∀ w,(Instr.makeSlice 64 (.int .i64 ((na:Int)+(nb:Int))) (.int .i64 ((na:Int)+(nb:Int)))).run Tryz.prog w = .ok (.slice (some ⟨w.heap.size,0,none⟩) (na+nb) (na+nb)) (w.alloc (.cells (nu (na+nb)) 170)):=fun w=>by
  have:=make_nu (na+nb) hn w
  rwa [Int.natCast_add] at this
 go_enter Tryz.func139,Tryz.ntmps139
 go_wp2
 have st:TOut a b (List.replicate (na+nb) 0) 0:=by rw[← la,← lb];exact TOut.zero a b
 have hA0:=Arr.nu w (na+nb)
 have hB0:=(Below.refl w.heap.size w).alloc (Nat.le_refl _) (.cells (nu (na+nb)) 170)
 clear hmk
 go_loopw [19] (fun i wr=>∃ (k:Nat) (L:List Nat),k≤na∧i = .int .i64 k∧TOut a b L k∧Arr wr w.heap.size L∧Below w.heap.size w wr) (fun i _=>na-(intOf i).toNat)
 case atStart=>exact⟨0,_,by omega,rfl,st,hA0,hB0⟩
 case round =>
  clear hA0 hB0 st
  obtain⟨i,L,hi,rfl,hT,hR,hB⟩:=hrel
  by_cases hlt:i<na
  ·have hAw:=HA.out.below hB
   obtain⟨bA,oA,rfl, -, -⟩:=hAw.row (by omega)
   have cA:=hAw.cell (k:=i) (by omega)
   have i1:(i:Int)<(na:Int):=by omega
   have xb:=lb_get hAw.lb (k:=i) (by omega)
   generalize hx:a[i]'(by omega)=x at cA xb
   have T0:=Lib.hid (hT.start x)
   have HR:=Lib.hid hR
   have HB:=Lib.hid hB
   clear hT hR hB hAw
   go_wp2
   go_loopw [8,26] (fun c j w2=>∃ (k cc:Nat) (L:List Nat),k≤nb∧j = .int .i64 k∧c = .int .u64 cc∧TIn a b L i k cc x∧Arr w2 w.heap.size L∧Below w.heap.size w w2) (fun _ j _=>nb-(intOf j).toNat)
   case atStart=>exact⟨0,0,_,by omega,rfl,rfl,T0.out,HR.out,HB.out⟩
   case round =>
    clear T0 HR HB
    obtain⟨k,cc,L,hk,rfl,rfl,hT,hR,hB⟩:=hrel
    have hLl:=hT.len
    by_cases hlk:k<nb
    ·have hDw:=HD.out.below hB
     obtain⟨bD,oD,rfl, -, -⟩:=hDw.row (by omega)
     have cD:=hDw.cell (k:=k) (by omega)
     have k1:(k:Int)<(nb:Int):=by omega
     have yb:=lb_get hDw.lb (k:=k) (by omega)
     have cL:=hR.cell (k:=i+k) (by omega)
     have fL:=hR.free (i+k)
     have lbd:=lb_get hT.lb (k:=i+k) (by omega)
     have ts:=hT.step (by omega) (by omega) hDw.lb xb (by omega)
     have ccb:=hT.c1
     have pb:=prod_bd xb yb ccb lbd
     generalize b[k]'(by omega)=y at cD yb ts pb
     generalize L[i+k]'(by omega)=l at cL lbd ts pb
     have r1:IntKind.u64.wrap ((x:Int)*(y:Int))=((x*y:Nat):Int):=by rw[← Int.natCast_mul];exact IntWalk.u64_in _ (by omega)
     generalize x*y=p at ts pb r1
     have ev:(((cc+(p+l)) % 4294967296:Nat):Int)=((cc:Int)+((p:Int)+(l:Int))) % 4294967296:=by omega
     have ed:(((cc+(p+l))/4294967296:Nat):Int)=((cc:Int)+((p:Int)+(l:Int)))/4294967296:=by omega
     have rs:=hR.set (i+k) ((cc+(p+l)) % 4294967296)
     rw[ev] at rs
     have bs:Below w.heap.size w (wr.setCell ⟨w.heap.size,i+k,none⟩ (.int .u32 (((cc:Int)+((p:Int)+(l:Int))) % 4294967296))):=hB.setCell (p:=⟨w.heap.size,i+k,none⟩) (Nat.le_refl _) _
     have fin:∃ (k' cc':Nat) (L':List Nat),k'≤nb∧Value.int .i64 ((k:Int)+1) = .int .i64 (k':Int)∧Value.int .u64 (((cc:Int)+((p:Int)+(l:Int)))/4294967296) = .int .u64 (cc':Int)∧TIn a b L' i k' cc' x∧Arr (wr.setCell ⟨w.heap.size,i+k,none⟩ (.int .u32 (((cc:Int)+((p:Int)+(l:Int))) % 4294967296))) w.heap.size L'∧Below w.heap.size w (wr.setCell ⟨w.heap.size,i+k,none⟩ (.int .u32 (((cc:Int)+((p:Int)+(l:Int))) % 4294967296))) :=
      ⟨k+1,_,_,by omega,by simp,by rw[← ed],ts,rs,bs⟩
     have Fin:=Lib.hid fin
     obtain⟨-,pb2⟩:=pb
     clear fin ts rs bs ev ed hT hR hB hDw
     go_wp2
     go_roundw
     case rel=>exact Fin.out
     case measure=>simp[intOf];omega
    ·obtain rfl:k=nb:=by omega
     have rs:=hR.set (i+k) cc
     have cL:=hR.cell (k:=i+k) (by omega)
     have fL:=hR.free (i+k)
     have ccb:=hT.c1
     have bs:Below w.heap.size w (wr.setCell ⟨w.heap.size,i+k,none⟩ (.int .u32 (cc:Int))):=hB.setCell (p:=⟨w.heap.size,i+k,none⟩) (Nat.le_refl _) _
     have tf:TOut a b (L.set (i+k) cc) (i+1):=by
      have:=TIn.fin (a:=a) (b:=b) (L:=L) (i:=i) (c:=cc) (by omega) (by rw[hx,lb];exact hT)
      rwa [lb] at this
     have fin:∃ (k':Nat) (L':List Nat),k'≤na∧Value.int .i64 ((i:Int)+1) = .int .i64 (k':Int)∧TOut a b L' k'∧Arr (wr.setCell ⟨w.heap.size,i+k,none⟩ (.int .u32 (cc:Int))) w.heap.size L'∧Below w.heap.size w (wr.setCell ⟨w.heap.size,i+k,none⟩ (.int .u32 (cc:Int))) :=
      ⟨i+1,_,by omega,by simp,tf,rs,bs⟩
     have Fin:=Lib.hid fin
     clear fin tf rs bs hT hR hB
     go_wp2
     go_roundw
     case rel=>exact Fin.out
     case measure=>simp[intOf];omega
  ·obtain rfl:i=na:=by omega
   go_wp2
   refine bodyPost_ret (results_tmp rfl _ _ _) rfl ⟨L,rfl,by rw[hT.len];omega,hT.lb,?_,hR,hB⟩
   show val L=val a*val b
   rw[hT.v,← la,List.take_length]
end Wd
namespace Wd
open Go.RowKit Lw

structure BX (w0:World) (x y:Bool) (u v:Value) (w:World):Prop where
 below:Below w0.heap.size w0 w
 size:w0.heap.size+3≤w.heap.size
 x0:w.cell? ⟨w0.heap.size,0,none⟩=some (.bool x)
 x1:w.cell? ⟨w0.heap.size,1,none⟩=some u
 y0:w.cell? ⟨w0.heap.size+1,0,none⟩=some (.bool y)
 y1:w.cell? ⟨w0.heap.size+1,1,none⟩=some v
 th:w.there (w0.heap.size+2) 0 2
theorem BX.new (w0:World) (x y:Bool) (u v:Value):BX w0 x y u v (((w0.alloc (.cells #[.bool x,u] 66)).alloc (.cells #[.bool y,v] 66)).alloc (.cells #[.bool false, .slice none 0 0] 66)):=by
 have h1:=(Below.refl w0.heap.size w0).alloc (Nat.le_refl _) (.cells #[.bool x,u] 66)
 have h2:=h1.alloc h1.size (.cells #[.bool y,v] 66)
 have h3:=h2.alloc h2.size (.cells #[.bool false, .slice none 0 0] 66)
 have r1:=rangeAt_new w0 [.bool x,u] 66
 have r2:=rangeAt_new (w0.alloc (.cells #[.bool x,u] 66)) [.bool y,v] 66
 have b2:=(Below.refl _ (w0.alloc (.cells #[.bool x,u] 66))).alloc (Nat.le_refl _) (.cells #[.bool y,v] 66)
 have b3:=(Below.refl _ ((w0.alloc (.cells #[.bool x,u] 66)).alloc (.cells #[.bool y,v] 66))).alloc (Nat.le_refl _) (.cells #[.bool false, .slice none 0 0] 66)
 have r1':=rangeAt_below (rangeAt_below r1 b2 (by simp)) b3 (by simp;omega)
 have r2':=rangeAt_below r2 b3 (by simp)
 have t:=there_new ((w0.alloc (.cells #[.bool x,u] 66)).alloc (.cells #[.bool y,v] 66)) #[.bool false, .slice none 0 0] 66 2 (by simp)
 simp only[World.size_alloc] at r2' t
 exact⟨h3,by simp,r1' 0 _ rfl,r1' 1 _ rfl,r2' 0 _ rfl,r2' 1 _ rfl,t⟩
theorem BX.call {w0 w w':World} {x y:Bool} {u v:Value} (h:BX w0 x y u v w) (hb:Below w.heap.size w w'):BX w0 x y u v w':=by
 have hs:=h.size
 have:=hb.size
 have q0:w0.heap.size<w.heap.size:=by omega
 have q1:w0.heap.size+1<w.heap.size:=by omega
 exact⟨below_then h.below hb,by omega,(hb.cell (p:=⟨_,0,none⟩) q0).trans h.x0,(hb.cell (p:=⟨_,1,none⟩) q0).trans h.x1,(hb.cell (p:=⟨_,0,none⟩) q1).trans h.y0,(hb.cell (p:=⟨_,1,none⟩) q1).trans h.y1,there_below h.th hb (by omega)⟩
theorem BX.drew {w0 w:World} {x y:Bool} {u v:Value} (h:BX w0 x y u v w):BX w0 x y u v w.drew:=⟨h.below.drew,h.size,h.x0,h.x1,h.y0,h.y1,h.th⟩
theorem BX.row {w0 w:World} {x y:Bool} {u v:Value} (h:BX w0 x y u v w):BX w0 x y u v (w.alloc (.cells #[.bool x,u, .bool y,v] 66)):=h.call ((Below.refl _ w).alloc (Nat.le_refl _) _)
def cellOf (w:World) (p:Addr):Value:=(w.cell? p).getD undef
theorem cellOf_some {w:World} {p:Addr} (h:(w.cell? p).isSome=true):w.cell? p=some (cellOf w p):=by
 obtain⟨v,hv⟩:=Option.isSome_iff_exists.1 h
 rw[cellOf,hv];rfl
theorem there_setCell {w:World} {b n:Nat} (h:w.there b 0 n) (q:Addr) (v:Value):(w.setCell q v).there b 0 n:=by
 intro j hj
 obtain⟨h1,h2⟩:=h j hj
 obtain⟨x,hx⟩:=Option.isSome_iff_exists.1 h1
 obtain⟨x',hx'⟩:=Go.RowKit.cell?_setCell_some (p:=q) (x:=v) hx
 exact⟨by rw[hx'];rfl,by rw[World.frozen?_setCell];exact h2⟩
theorem BX.set {w0 w:World} {x y:Bool} {u v:Value} (h:BX w0 x y u v w) (o:Nat) (z:Value):BX w0 x y u v (w.setCell ⟨w0.heap.size+2,o,none⟩ z):=by
 refine⟨h.below.setCell (by simp) _,by simpa using h.size,?_,?_,?_,?_,there_setCell h.th _ _⟩
 ·exact(World.cell?_setCell_other _ _ _ _ (by simp)).trans h.x0
 ·exact(World.cell?_setCell_other _ _ _ _ (by simp)).trans h.x1
 ·exact(World.cell?_setCell_other _ _ _ _ (by simp)).trans h.y0
 ·exact(World.cell?_setCell_other _ _ _ _ (by simp)).trans h.y1
abbrev BXS (w0:World) (x y:Bool) (u v:Value) (w:World):Prop :=
 w.cell? ⟨w0.heap.size,0,none⟩=some (.bool x)∧w.cell? ⟨w0.heap.size,1,none⟩=some u∧w.cell? ⟨w0.heap.size+1,0,none⟩=some (.bool y)∧w.cell? ⟨w0.heap.size+1,1,none⟩=some v ∧
  w.cell? ⟨w0.heap.size+2,0,none⟩=some (cellOf w ⟨w0.heap.size+2,0,none⟩)∧w.cell? ⟨w0.heap.size+2,1,none⟩=some (cellOf w ⟨w0.heap.size+2,1,none⟩)∧w.frozen? ⟨w0.heap.size+2,0,none⟩=false∧w.frozen? ⟨w0.heap.size+2,1,none⟩=false∧BX w0 x y u v w
theorem BX.s {w0 w:World} {x y:Bool} {u v:Value} (h:BX w0 x y u v w):BXS w0 x y u v w :=
 ⟨h.x0,h.x1,h.y0,h.y1,cellOf_some (h.th 0 (by omega)).1,cellOf_some (h.th 1 (by omega)).1,(h.th 0 (by omega)).2,(h.th 1 (by omega)).2,h⟩
def NumPost (w:World) (z:Int) (e:Ending) (w':World):Prop:=∃ V,e = .returned (.tuple #[V, .int .i64 0])∧Wide w.heap.size w' V z∧Below w.heap.size w w'
theorem sgn_mul (z1 z2:Int):sgn (!(decide (z1<0)==decide (z2<0))) (z1*z2).natAbs=z1*z2:=by
 rw[Int.natAbs_mul]
 by_cases h1:z1<0 <;> by_cases h2:z2<0
 ·have e1:z1 = -(z1.natAbs:Int):=by omega
  have e2:z2 = -(z2.natAbs:Int):=by omega
  simp only[sgn,h1,h2,decide_true,beq_self_eq_true,Bool.not_true,if_false,Bool.false_eq_true,Int.natCast_mul]
  generalize z1.natAbs=p at *;generalize z2.natAbs=q at *;subst e1;subst e2
  rw[Int.neg_mul_neg]
 ·have e1:z1 = -(z1.natAbs:Int):=by omega
  have e2:z2=(z2.natAbs:Int):=by omega
  simp only[sgn,h1,h2,decide_true,decide_false,Int.natCast_mul]
  generalize z1.natAbs=p at *;generalize z2.natAbs=q at *;subst e1;subst e2
  rw[Int.neg_mul];rfl
 ·have e1:z1=(z1.natAbs:Int):=by omega
  have e2:z2 = -(z2.natAbs:Int):=by omega
  simp only[sgn,h1,h2,decide_true,decide_false,Int.natCast_mul]
  generalize z1.natAbs=p at *;generalize z2.natAbs=q at *;subst e1;subst e2
  rw[Int.mul_neg];rfl
 ·have e1:z1=(z1.natAbs:Int):=by omega
  have e2:z2=(z2.natAbs:Int):=by omega
  simp only[sgn,h1,h2,decide_false,beq_self_eq_true,Bool.not_true,if_false,Bool.false_eq_true,Int.natCast_mul]
  generalize z1.natAbs=p at *;generalize z2.natAbs=q at *;subst e1;subst e2;rfl
theorem num_fin {w w':World} {x y:Bool} {u v:Value} {g k cap:Nat} {z:Int} (h:BX w x y u v w') (hM:Lim w' (some ⟨g,0,none⟩) k cap (canon z.natAbs)) (hg:w.heap.size+3≤g) :
  World.rangeAt (w'.setCells (w.heap.size+2) 0 [.bool (decide (z<0)), .slice (some ⟨g,0,none⟩) k cap]) (w.heap.size+2) 0 [.bool (decide (z<0)), .slice (some ⟨g,0,none⟩) k cap] ∧
  NumPost w z (.returned (.tuple #[.agg #[.bool (decide (z<0)), .slice (some ⟨g,0,none⟩) k cap], .int .i64 0])) (w'.setCells (w.heap.size+2) 0 [.bool (decide (z<0)), .slice (some ⟨g,0,none⟩) k cap]) :=
 ⟨World.rangeAt_setCells_same _ _ _ _ h.th,_,rfl,⟨_,k,cap,rfl,hM.setCells (fun b off e=>by cases e;omega) _ _,fun b off e=>by cases e;omega⟩,below_setCells _ (by omega) _ _ _ h.below⟩
theorem mul_walk (V1 V2:Value) (z1 z2:Int) (w:World) (h1:Wide 0 w V1 z1) (h2:Wide 0 w V2 z2) (hn:(canon z1.natAbs).length+(canon z2.natAbs).length≤4096) :
  Calls Tryz.prog 86 #[V1,V2] w (NumPost w (z1*z2)):=by
 obtain⟨a,n,ca,rfl,hA, -⟩:=h1
 obtain⟨d,m,cd,rfl,hD, -⟩:=h2
 have la:=hA.len
 have ld:=hD.len
 have hS0:=BX.new w (decide (z1<0)) (decide (z2<0)) (.slice a n ca) (.slice d m cd)
 have hsz:(((w.alloc (.cells #[.bool (decide (z1<0)), .slice a n ca] 66)).alloc (.cells #[.bool (decide (z2<0)), .slice d m cd] 66)).alloc (.cells #[.bool false, .slice none 0 0] 66)).heap.size=w.heap.size+3:=by simp
 have hW:WRow ((((w.alloc (.cells #[.bool (decide (z1<0)), .slice a n ca] 66)).alloc (.cells #[.bool (decide (z2<0)), .slice d m cd] 66)).alloc (.cells #[.bool false, .slice none 0 0] 66)).alloc (.cells #[.bool (decide (z1<0)), .slice a n ca, .bool (decide (z2<0)), .slice d m cd] 66)) (w.heap.size+3) 2 (fun k=>if k=0 then z1 else z2):=by
  have r:=rangeAt_new (((w.alloc (.cells #[.bool (decide (z1<0)), .slice a n ca] 66)).alloc (.cells #[.bool (decide (z2<0)), .slice d m cd] 66)).alloc (.cells #[.bool false, .slice none 0 0] 66)) [.bool (decide (z1<0)), .slice a n ca, .bool (decide (z2<0)), .slice d m cd] 66
  rw[hsz] at r
  have hb:=hS0.row.below
  refine⟨by simp,fun k hk=>?_⟩
  match k,hk with
  | 0,_=>exact⟨a,n,ca,r 0 _ rfl,r 1 _ rfl,hA.below hb,by omega⟩
  | 1,_=>exact⟨d,m,cd,r 2 _ rfl,r 3 _ rfl,hD.below hb,by omega⟩
 have hS1:=hS0.row
 have HC:=Lib.hid (check_walk _ _ 2 2 _ hW (by omega))
 clear hW hS0 hsz
 have HA:=Lib.hid hA
 have HD:=Lib.hid hD
 have HS:=Lib.hid hS1
 clear hA hD hS1
 go_enter Tryz.func86,Tryz.ntmps86
 go_wp2_with fail
 refine HC.out.mono ?_
 rintro e w1 ⟨rfl,hb⟩
 have hS:=HS.out.call hb
 clear hb HS HC
 go_wp2_with fail
 have KA:=fun w' (h:BXS w (decide (z1<0)) (decide (z2<0)) (.slice a n ca) (.slice d m cd) w')=>HA.out.below h.2.2.2.2.2.2.2.2.below
 have KD:=fun w' (h:BXS w (decide (z1<0)) (decide (z2<0)) (.slice a n ca) (.slice d m cd) w')=>HD.out.below h.2.2.2.2.2.2.2.2.below
 have KC:=fun w' w2 (h:BXS w (decide (z1<0)) (decide (z2<0)) (.slice a n ca) (.slice d m cd) w') (hb:Below w'.heap.size w' w2)=>h.2.2.2.2.2.2.2.2.call hb
 have nm:n+m≤1000000:=by omega
 have nl:∀ L:List Nat,Lb L→L.length=n+m→(canon (val L)).length≤4096:=fun L h1 h2=>by have:=canon_le L h1;omega
 have nc:∀ L:List Nat,∀ w2 g,Arr w2 g L→Lb L→L.length=n+m→Lim w2 (some ⟨g,0,none⟩) (n+m) (n+m) L:=fun L w2 g h1 h2 h3=>by have:=h1.lim (cap:=n+m) h2 (by omega) (by omega);rwa [h3] at this
 go_region_held3 (fun w'=>w'.cell? ⟨w.heap.size,0,none⟩=some (.bool (decide (z1<0)))∧w'.cell? ⟨w.heap.size,1,none⟩=some (.slice a n ca)∧w'.cell? ⟨w.heap.size+1,0,none⟩=some (.bool (decide (z2<0)))∧w'.cell? ⟨w.heap.size+1,1,none⟩=some (.slice d m cd)∧w'.cell? ⟨w.heap.size+2,0,none⟩=some (cellOf w' ⟨w.heap.size+2,0,none⟩)∧w'.cell? ⟨w.heap.size+2,1,none⟩=some (cellOf w' ⟨w.heap.size+2,1,none⟩)∧w'.frozen? ⟨w.heap.size+2,0,none⟩=false∧w'.frozen? ⟨w.heap.size+2,1,none⟩=false∧BX w (decide (z1<0)) (decide (z2<0)) (.slice a n ca) (.slice d m cd) w') (first|exact BX.s (BX.drew hS)|exact BX.s hS|exact BX.s hk2|exact BX.s hk|exact BX.s (BX.set (BX.set hk2 _ _) _ _)|exact BX.s (by assumption)) (first|(go_at_call 139;refine(times_walk _ _ _ _ n ca m cd _ (KA _ (by assumption)) (KD _ (by assumption)) nm).mono ?_;rintro e w' ⟨L,rfl,hL1,hL2,hL3,hL4,hb⟩;have hk:=KC _ _ (by assumption) hb;clear hb)|(go_at_call 138;refine(made_walk _ L _ _ _ _ (nc L _ _ hL4 hL2 hL1) (nl L hL2 hL1)).mono ?_;rintro e w' ⟨rfl,hM,hb⟩;have hk2:=BX.call hk hb;clear hb))
 have nv:val (canon z1.natAbs)*val (canon z2.natAbs)=(z1*z2).natAbs:=by rw[val_canon,val_canon,Int.natAbs_mul]
 have e:val L=(z1*z2).natAbs:=hL3.trans nv
 rw[e] at hM
 have hs:=hS.size
 have F:=Lib.hid (num_fin hk2 hM (by simpa using hs))
 clear hM
 have SM:=Lib.hid (sgn_mul z1 z2)
 have NV:=Lib.hid nv
 clear e nv
 go_wp2_with fail
 rw[NV.out,SM.out]
 exact bodyPost_ret (ret_cell_tmp Tryz.results86 _ _ (w.heap.size+2) [.bool _, .slice _ _ _] _ rfl F.out.1 Tryz.underlying66 rfl infoW) rfl F.out.2
end Wd
end Go.Proofs.YtdnogmanbdgadaaGreatDoor
