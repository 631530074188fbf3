/-
  Lemmas and walks, texts joined: WAdd2, WGcd, WDM, FSmall, FReduce, FMake, TKLaw, QAdd, QAdd2.
-/
import Derived.Recover
import Derived.Defers
import Derived.Deep.RegionHeld3
import Derived.Laws.AppendOwnNone
import Derived.Deep.CutBlock
import Derived.Deep.CutRange
import Derived.Deep.DeepCutAuto
import Derived.BigQuiet
import Derived.StillTailTactics
import Derived.RegionTactic
import Derived.Test.YtdnogmanbdgadaaGreatDoorTb19
import Derived.Test.YtdnogmanbdgadaaGreatDoorTb08
import Derived.Test.YtdnogmanbdgadaaGreatDoorTb07
import Derived.Test.YtdnogmanbdgadaaGreatDoorTb10
import Derived.Test.YtdnogmanbdgadaaGreatDoorTb16
import Derived.Test.YtdnogmanbdgadaaGreatDoorTb18
import Derived.Test.YtdnogmanbdgadaaGreatDoorTb04
import Derived.Test.YtdnogmanbdgadaaGreatDoorTb09
import Derived.Test.YtdnogmanbdgadaaGreatDoorTb14
import Derived.Test.YtdnogmanbdgadaaGreatDoorTb15
import Derived.Test.YtdnogmanbdgadaaGreatDoorTb13
set_option linter.unusedSimpArgs false
set_option linter.unusedVariables false
set_option maxRecDepth 100000
set_option maxHeartbeats 40000000
namespace Go.Proofs.YtdnogmanbdgadaaGreatDoor
namespace Wd
open Go.RowKit Lw

theorem num_fin2 {w w':World} {x y:Bool} {u v:Value} {a:Option Addr} {k cap:Nat} {z:Int} (h:BX w x y u v w') (hM:Lim w' a k cap (canon z.natAbs)) (hg:∀ b off,a=some ⟨b,off,none⟩→w.heap.size+3≤b) :
  World.rangeAt (w'.setCells (w.heap.size+2) 0 [.bool (decide (z<0)), .slice a k cap]) (w.heap.size+2) 0 [.bool (decide (z<0)), .slice a k cap] ∧
  NumPost w z (.returned (.tuple #[.agg #[.bool (decide (z<0)), .slice a k cap], .int .i64 0])) (w'.setCells (w.heap.size+2) 0 [.bool (decide (z<0)), .slice a k cap]) :=
 ⟨World.rangeAt_setCells_same _ _ _ _ h.th,_,rfl,⟨_,k,cap,rfl,hM.setCells (fun b off e=>by have:=hg b off e;omega) _ _,fun b off e=>by have:=hg b off e;omega⟩,below_setCells _ (by omega) _ _ _ h.below⟩
theorem two_row (z1 z2:Int) (a d:Option Addr) (n ca m cd:Nat) (w:World) (hA:Lim w a n ca (canon z1.natAbs)) (hD:Lim w d m cd (canon z2.natAbs)) (hn:n≤4096) (hm:m≤4096) :
  WRow ((((w.alloc (.cells #[.bool (decide (z1<0)), .slice a n ca] 66)).alloc (.cells #[.bool (decide (z2<0)), .slice d m cd] 66)).alloc (.cells #[.bool false, .slice none 0 0] 66)).alloc (.cells #[.bool (decide (z1<0)), .slice a n ca, .bool (decide (z2<0)), .slice d m cd] 66)) (w.heap.size+3) 2 (fun k=>if k=0 then z1 else z2):=by
 have hS0:=BX.new w (decide (z1<0)) (decide (z2<0)) (.slice a n ca) (.slice d m cd)
 have hsz:(((w.alloc (.cells #[.bool (decide (z1<0)), .slice a n ca] 66)).alloc (.cells #[.bool (decide (z2<0)), .slice d m cd] 66)).alloc (.cells #[.bool false, .slice none 0 0] 66)).heap.size=w.heap.size+3:=by simp
 have r:=rangeAt_new (((w.alloc (.cells #[.bool (decide (z1<0)), .slice a n ca] 66)).alloc (.cells #[.bool (decide (z2<0)), .slice d m cd] 66)).alloc (.cells #[.bool false, .slice none 0 0] 66)) [.bool (decide (z1<0)), .slice a n ca, .bool (decide (z2<0)), .slice d m cd] 66
 rw[hsz] at r
 have hb:=hS0.row.below
 refine⟨by simp,fun k hk=>?_⟩
 match k,hk with
 | 0,_=>exact⟨a,n,ca,r 0 _ rfl,r 1 _ rfl,hA.below hb,hn⟩
 | 1,_=>exact⟨d,m,cd,r 2 _ rfl,r 3 _ rfl,hD.below hb,hm⟩
end Wd
namespace Wd
open Go.RowKit Lw

def rdv (w:World):Value→Nat
 | .slice (some a) n _=>val ((List.range n).map fun k=>match w.cell? ⟨a.block,a.off+k,none⟩ with|some (.int _ x)=>x.toNat|_=>0)
 | _=>0
theorem rdv_lim {w:World} {a:Option Addr} {n cap:Nat} {l:List Nat} (h:Lim w a n cap l):rdv w (.slice a n cap)=val l:=by
 have hl:=h.len
 cases a with
 | none =>
  have:n=0:=by
   rcases Nat.eq_zero_or_pos n with g|g
   ·exact g
   ·obtain⟨_,_,e,_⟩:=h.row g;cases e
  subst this
  rw[List.length_eq_zero_iff.1 hl];rfl
 | some a =>
  show val _=val l
  congr 1
  apply List.ext_getElem
  ·simp[hl]
  ·intro i h1 h2
   obtain⟨b,off,e,_,_⟩:=h.row (by omega)
   cases e
   rw[List.getElem_map,List.getElem_range]
   simp only[h.cell h2,Int.toNat_natCast]
theorem gcd_step (P Q:Nat):Nat.gcd Q (P % Q)=Nat.gcd P Q:=by rw[Nat.gcd_comm Q,← Nat.gcd_rec,Nat.gcd_comm]
end Wd
namespace Wd
open Go.RowKit Lw

section
variable {P : Program}
theorem ret_cell2_tmp {fn:Func} {p q u:Tmp} {ty:TypeId} (h:fn.results = #[.cell p ty, .cell q ty, .tmp u]) (tmps:Array Value) (w:World) (b c:Nat) (cs ds:List Value) (d:TypeDesc)
  (hp:tmps.getD p undef = .pointer (some ⟨b,0,none⟩)) (hq:tmps.getD q undef = .pointer (some ⟨c,0,none⟩)) (hr:w.rangeAt b 0 cs) (hs:w.rangeAt c 0 ds) (hu:P.underlying ty=some d) (hd:d.isRow=true) (hi:(P.info? ty).map (·.size)=some cs.length) (hj:(P.info? ty).map (·.size)=some ds.length) :
  (results fn tmps).run P w = .ok (.tuple #[.agg cs.toArray, .agg ds.toArray,tmps.getD u undef]) w:=by
 have hp':tmps[p]?.getD undef = .pointer (some ⟨b,0,none⟩):=by simpa using hp
 have hq':tmps[q]?.getD undef = .pointer (some ⟨c,0,none⟩):=by simpa using hq
 simp[results,h,hp',hq',asAddr,run_loadVar_mid w b 0 ty cs d hr hu hd hi,run_loadVar_mid w c 0 ty ds d hs hu hd hj,Result.andThen]
end
theorem cell_same_set {w:World} {p:Addr} {v:Value} (h:w.cell? p=some v) (q:Addr):(w.setCell p v).cell? q=w.cell? q:=by
 by_cases e:q=p
 ·subst e
  rw[World.cell?_setCell_same' w q v (by rw[h];rfl),h]
 ·exact World.cell?_setCell_other _ _ _ _ (Ne.symm e)
theorem two_row2 (z1 z2:Int) (a d:Option Addr) (n ca m cd:Nat) (w W:World) (hb:Below w.heap.size w W) (hA:Lim w a n ca (canon z1.natAbs)) (hD:Lim w d m cd (canon z2.natAbs)) (hn:n≤4096) (hm:m≤4096) :
  WRow (W.alloc (.cells #[.bool (decide (z1<0)), .slice a n ca, .bool (decide (z2<0)), .slice d m cd] 66)) W.heap.size 2 (fun k=>if k=0 then z1 else z2):=by
 have r:=rangeAt_new W [.bool (decide (z1<0)), .slice a n ca, .bool (decide (z2<0)), .slice d m cd] 66
 have hb2:=hb.alloc hb.size (.cells #[.bool (decide (z1<0)), .slice a n ca, .bool (decide (z2<0)), .slice d m cd] 66)
 refine⟨by simp,fun k hk=>?_⟩
 match k,hk with
 | 0,_=>exact⟨a,n,ca,r 0 _ rfl,r 1 _ rfl,hA.below hb2,hn⟩
 | 1,_=>exact⟨d,m,cd,r 2 _ rfl,r 3 _ rfl,hD.below hb2,hm⟩
structure DE (w0:World) (aq ar:Option Addr) (kq cq kr cr Q R:Nat) (w:World):Prop where
 below:Below w0.heap.size w0 w
 lq:Lim w aq kq cq (canon Q)
 lr:Lim w ar kr cr (canon R)
 fq:∀ b off,aq=some ⟨b,off,none⟩→w0.heap.size+4≤b
 fr:∀ b off,ar=some ⟨b,off,none⟩→w0.heap.size+4≤b
theorem DE.set {w0 w:World} {aq ar:Option Addr} {kq cq kr cr Q R:Nat} (h:DE w0 aq ar kq cq kr cr Q R w) {b:Nat} (h1:w0.heap.size≤b) (h2:b<w0.heap.size+4) (o:Nat) (v:Value):DE w0 aq ar kq cq kr cr Q R (w.setCell ⟨b,o,none⟩ v) :=
 ⟨h.below.setCell (p:=⟨b,o,none⟩) h1 _,h.lq.grown (grownBy_set2 _ _ _ _) (fun b' off e=>by have:=h.fq b' off e;omega),h.lr.grown (grownBy_set2 _ _ _ _) (fun b' off e=>by have:=h.fr b' off e;omega),h.fq,h.fr⟩
theorem DE.call {w0 w w':World} {aq ar:Option Addr} {kq cq kr cr Q R:Nat} (h:DE w0 aq ar kq cq kr cr Q R w) (hb:Below w.heap.size w w'):DE w0 aq ar kq cq kr cr Q R w' :=
 ⟨below_then h.below hb,h.lq.below hb,h.lr.below hb,h.fq,h.fr⟩
theorem DE.undrew {w0 w:World} {aq ar:Option Addr} {kq cq kr cr Q R:Nat} (h:DE w0 aq ar kq cq kr cr Q R w.drew):DE w0 aq ar kq cq kr cr Q R w :=
 ⟨⟨h.below.os,h.below.tape,h.below.output,h.below.size,h.below.block⟩,⟨h.lq.len,h.lq.lb,h.lq.cp,h.lq.sm,h.lq.row⟩,⟨h.lr.len,h.lr.lb,h.lr.cp,h.lr.sm,h.lr.row⟩,h.fq,h.fr⟩
theorem range2 {w:World} {b:Nat} {x y:Value} (h0:w.cell? ⟨b,0,none⟩=some x) (h1:w.cell? ⟨b,1,none⟩=some y):w.rangeAt b 0 [x,y]:=fun j v hj=>by
 match j,hj with
 | 0,hj=>simp at hj;subst hj;exact h0
 | 1,hj=>simp at hj;subst hj;exact h1
def DMPost (w:World) (q r:Int) (e:Ending) (w':World):Prop:=∃ V1 V2,e = .returned (.tuple #[V1,V2, .int .i64 0])∧Wide w.heap.size w' V1 q∧Wide w.heap.size w' V2 r∧Below w.heap.size w w'
end Wd
namespace Wd
open Go.RowKit Lw

theorem want_walk (w:World):Calls Tryz.prog 141 #[.int .i64 0] w fun e w'=>e = .returned (.tuple #[])∧w=w':=by
 go_enter Tryz.func141,Tryz.ntmps141
 go_wp2
 go_end0
 exact⟨rfl,rfl⟩
theorem must_walk (b:Bool) (a:Option Addr) (n cap:Nat) (w:World):Calls Tryz.prog 128 #[.agg #[.bool b, .slice a n cap], .int .i64 0] w fun e w'=>e = .returned (.agg #[.bool b, .slice a n cap])∧Below w.heap.size w w':=by
 have hB:=((Below.refl w.heap.size w).alloc (Nat.le_refl _) (.cells #[.bool b, .slice a n cap] 66)).alloc (by simp) (.cells #[.bool b, .slice a n cap] 66)
 have r:=rangeAt_new (w.alloc (.cells #[.bool b, .slice a n cap] 66)) [.bool b, .slice a n cap] 66
 rw[World.size_alloc] at r
 have HB:=Lib.hid hB
 have R:=Lib.hid r
 clear hB r
 go_enter Tryz.func128,Tryz.ntmps128
 go_wp2_with fail
 exact bodyPost_ret (ret_cell Tryz.results128 _ _ (w.heap.size+1) [.bool b, .slice a n cap] _ rfl R.out Tryz.underlying66 rfl infoW) rfl ⟨rfl,HB.out⟩
theorem zero_walk (b:Bool) (a:Option Addr) (n cap:Nat) (w:World) (hn:0<n):Calls Tryz.prog 143 #[.agg #[.bool b, .slice a n cap]] w fun e w'=>e = .returned (.bool false)∧Below w.heap.size w w':=by
 have hB:=(Below.refl w.heap.size w).alloc (Nat.le_refl _) (.cells #[.bool b, .slice a n cap] 66)
 have HB:=Lib.hid hB
 have k:¬ (n:Int)=0:=by omega
 clear hB
 go_enter Tryz.func143,Tryz.ntmps143
 go_wp2_with fail
 refine bodyPost_ret (results_tmp rfl _ _ _) rfl ⟨?_,HB.out⟩
 simp
 omega
end Wd
namespace Wd
open Go.RowKit Lw

theorem infoF:(Tryz.prog.info? 68).map (·.size)=some 4:=by kernel_rfl
theorem wideN {B:Nat} {w:World} {a:Option Addr} {k c p:Nat} (h:Lim w a k c (canon p)) (hg:∀ b off,a=some ⟨b,off,none⟩→B≤b):Wide B w (.agg #[.bool false, .slice a k c]) (p:Int) :=
 ⟨a,k,c,by rw[decide_eq_false (by omega)],by rw[Int.natAbs_natCast];exact h,hg⟩
theorem wideN_inv {B:Nat} {w:World} {V:Value} {p:Nat} (h:Wide B w V (p:Int)):∃ a k c,V = .agg #[.bool false, .slice a k c]∧Lim w a k c (canon p) ∧ ∀ b off,a=some ⟨b,off,none⟩→B≤b:=by
 obtain⟨a,k,c,rfl,hL,hg⟩:=h
 rw[Int.natAbs_natCast] at hL
 exact⟨a,k,c,by rw[decide_eq_false (by omega)],hL,hg⟩
end Wd
namespace Wd
open Go.RowKit Lw

theorem catch_idle (p:Addr) (w:World):CallsD Tryz.prog 140 #[.pointer (some p)] .returning w fun e u' w'=>e = .returned (.tuple #[])∧u' = .returning∧w'=w:=by
 refine callsD_of_wpS Tryz.func140 rfl fun c₀ cs hu=>?_
 apply wpS_seq
 apply wpS_region
 simp[wpOpsS,go_sem,recoverD,hu,Tryz.ntmps140,Exit.thenS]
 refine wpS_of_wp ?_
 go_wp2
 cases c₀
 simp_all [bodyPostS,results,Tryz.results140]
section
variable {P : Program}
theorem ret_cells {fn:Func} {p q:Tmp} {ty ty2:TypeId} (h:fn.results = #[.cell p ty, .cell q ty2]) (tmps:Array Value) (w:World) (b c:Nat) (cs:List Value) (z:Value) (d:TypeDesc)
  (hp:tmps.getD p undef = .pointer (some ⟨b,0,none⟩)) (hq:tmps.getD q undef = .pointer (some ⟨c,0,none⟩)) (hr:w.rangeAt b 0 cs) (hu:P.underlying ty=some d) (hd:d.isRow=true) (hi:(P.info? ty).map (·.size)=some cs.length)
  (hz:(loadVar ty2 ⟨c,0,none⟩).run P w = .ok z w) :
  (results fn tmps).run P w = .ok (.tuple #[.agg cs.toArray,z]) w:=by
 have hp':tmps[p]?.getD undef = .pointer (some ⟨b,0,none⟩):=by simpa using hp
 have hq':tmps[q]?.getD undef = .pointer (some ⟨c,0,none⟩):=by simpa using hq
 simp[results,h,hp',hq',asAddr,run_loadVar_mid w b 0 ty cs d hr hu hd hi,hz,Result.andThen]
end
end Wd
namespace Tw
open Go.RowKit Lw Ow Tk Go.Proofs.YtdnogmanbdgadaaGreatDoor.Ap Go.Proofs.YtdnogmanbdgadaaGreatDoor.Op Go.Proofs.YtdnogmanbdgadaaGreatDoor.Mp Go.Proofs.YtdnogmanbdgadaaGreatDoor.Mw Go.Proofs.YtdnogmanbdgadaaGreatDoor.At

theorem info5:(Tryz.prog.info? 24).map (·.size)=some 5:=by kernel_rfl
theorem insL_len (s:List Nat):∀ l,(insL s l).length=l.length+1
 | []=>rfl
 | t::l=>by
  rw[insL]
  split
  ·rfl
  ·rw[List.length_cons,insL_len s l,List.length_cons]
theorem refTo_len (K:List (List Nat)) (c:Nat):∀ n,(refTo K c n).length≤n
 | 0=>Nat.le_refl _
 | n+1=>by
  have:=refTo_len K c n
  rw[refTo]
  split
  ·rw[insL_len];omega
  ·omega
def KF (l:List Ob) (u:Rl):List (List Nat):=if stT l u=0 then refTo ((allA l u l.length).map (setOf l u)) u.count.toNat ((allA l u l.length).map (setOf l u)).length else[]
theorem sets_inc (l:List Ob) (u:Rl):∀ s∈(allA l u l.length).map (setOf l u),Inc s:=fun s hs=>by
 obtain⟨z, -,rfl⟩:=List.mem_map.1 hs
 exact inc_filter _ _
theorem KF_is {l:List Ob} {u:Rl} (hs:stT l u=0→l.length≤9) {K':List (List Nat)} (h1:stT l u=0→K'.Pairwise (fun s t=>ltL t s=false)∧K'.Perm (keepL ((allA l u l.length).map (maskOf l u)) u.count.toNat)) (h2:stT l u≠0→K' = []):K'=KF l u:=by
 unfold KF
 by_cases h:stT l u=0
 ·rw[if_pos h]
  obtain⟨a,b⟩:=h1 h
  have f1:=prog_find (M:=(allA l u l.length).map (maskOf l u)) (fun x hx=>by
   obtain⟨z, -,rfl⟩:=List.mem_map.1 hx
   exact maskTo_lt l u _ _ (hs h) _) b a
  rw[List.map_map,show (bitsL ∘ maskOf l u)=setOf l u from funext fun z=>mask_set l u z (hs h)] at f1
  exact f1.uniq (ref_find (sets_inc l u))
 ·rw[if_neg h]
  exact h2 h
theorem KF_small {l:List Ob} {u:Rl} (hs:stT l u=0→l.length≤9):(KF l u).length≤1000000 ∧ ∀ s∈KF l u,s.length≤1000000:=by
 unfold KF
 by_cases h:stT l u=0
 ·rw[if_pos h]
  have h9:=hs h
  refine⟨?_,fun s hm=>?_⟩
  ·have:=refTo_len ((allA l u l.length).map (setOf l u)) u.count.toNat ((allA l u l.length).map (setOf l u)).length
   have a:=allA_len l u l.length
   have b:=Nat.mul_le_mul (show l.length≤10 by omega) (show l.length≤10 by omega)
   rw[List.length_map] at this
   rw[List.length_map]
   omega
  ·have:=((ref_find (count:=u.count.toNat) (sets_inc l u)).mem s).1 hm
   obtain⟨z, -,rfl⟩:=List.mem_map.1 this.1
   exact Nat.le_trans (List.length_filter_le _ _) (by simp;omega)
 ·rw[if_neg h]
  exact⟨by simp,fun s h=>by cases h⟩
theorem find2_any (x:Option Addr) (cap:Nat) (l:List Ob) (u:Rl) (w:World) (hE:ES w) (hD:DB w) (hl:SlA w x l) (hm0:l.length≤1000000) (hs:stT l u=0→l.length≤9) (hb:OBs l) :
  Calls Tryz.prog 13 #[.slice x l.length cap,rlV u] w fun e w'=>∃ V,e = .returned (.tuple #[V, .int .i64 (stT l u)])∧Below w.heap.size w w'∧SetsAt w' V (KF l u) :=
 (find_any x cap l u w hE hD hl hm0 hs hb).mono fun _ _ ⟨V,he,hb',K',h1,h2,h3⟩=>⟨V,he,hb',KF_is hs h2 h3 ▸ h1⟩
end Tw
namespace Wd
open Go.RowKit Lw

theorem plus_swap (a b:List Nat) (A D:Option Addr) (na ca nb cb:Nat) (w:World) (hA:Lim w A na ca a) (hD:Lim w D nb cb b) (hn:na+1≤1000000) (hle:nb<na) :
  Calls Tryz.prog 213 #[.slice D nb cb, .slice A na ca] w (FreshPost w (na+1) fun L=>val L=val a+val b):=by
 have la:=hA.len
 have lb:=hD.len
 have HA:=Lib.hid hA
 have HD:=Lib.hid hD
 clear hA hD
 have hmk:∀ w,(Instr.makeSlice 64 (.int .i64 ((na:Int)+1)) (.int .i64 ((na:Int)+1))).run Tryz.prog w = .ok (.slice (some ⟨w.heap.size,0,none⟩) (na+1) (na+1)) (w.alloc (.cells (nu (na+1)) 170)):=fun w=>by
  have:=make_nu (na+1) hn w
  rwa [Int.natCast_add] at this
 have hlt:(nb:Int)<(na:Int):=by omega
 go_enter Tryz.func213,Tryz.ntmps213
 go_wp2
 have st:PIn a b (List.replicate (na+1) 0) 0 0:=by rw[← la];exact PIn.zero a b
 have hA0:=Arr.nu w (na+1)
 have hB0:=(Below.refl w.heap.size w).alloc (Nat.le_refl _) (.cells (nu (na+1)) 170)
 clear hmk hlt
 go_loopw [6,23] (fun c i wr=>∃ (k cc:Nat) (L:List Nat),k≤na∧i = .int .i64 k∧c = .int .u32 cc∧PIn a b L k cc∧Arr wr w.heap.size L∧Below w.heap.size w wr) (fun _ i _=>na-(intOf i).toNat)
 case atStart=>exact⟨0,0,_,by omega,rfl,rfl,st,hA0,hB0⟩
 case round =>
  clear hA0 hB0 st
  obtain⟨i,c,L,hi,rfl,rfl,hT,hR,hB⟩:=hrel
  have hLl:=hT.len
  by_cases hlt:i<na
  ·have hAw:=HA.out.below hB
   obtain⟨bA,oA,rfl, -, -⟩:=hAw.row (by omega)
   have cA:=hAw.cell (k:=i) (by omega)
   have i1:(i:Int)<(na:Int):=by omega
   have i2:(i:Int)<(na:Int)+1:=by omega
   have xb:=lb_get hAw.lb (k:=i) (by omega)
   have ps:=hT.step (by omega) hAw.lb (HD.out.below hB).lb
   have yb:=at0_lt HD.out.lb i
   have cb:=hT.c1
   have fL:=hR.free i
   have cL:=hR.cell (k:=i) (by omega)
   generalize a[i]'(by omega)=x at cA xb ps
   by_cases hib:i<nb
   ·have hDw:=HD.out.below hB
    obtain⟨bD,oD,rfl, -, -⟩:=hDw.row (by omega)
    have cD:=hDw.cell (k:=i) (by omega)
    have j1:(i:Int)<(nb:Int):=by omega
    rw[at0_in (by omega)] at ps yb
    generalize b[i]'(by omega)=y at cD ps yb
    have ac:=fun w=>add32 x y c w xb yb cb
    generalize (x+y+c) % 4294967296=v at ac ps
    generalize (x+y+c)/4294967296=k at ac ps
    have rs:=hR.set i v
    have bs:Below w.heap.size w (wr.setCell ⟨w.heap.size,i,none⟩ (.int .u32 (v:Int))):=hB.setCell (p:=⟨w.heap.size,i,none⟩) (Nat.le_refl _) _
    have fin:∃ (k' c':Nat) (L':List Nat),k'≤na∧Value.int .i64 ((i:Int)+1) = .int .i64 (k':Int)∧Value.int .u32 (k:Int) = .int .u32 (c':Int)∧PIn a b L' k' c'∧Arr (wr.setCell ⟨w.heap.size,i,none⟩ (.int .u32 (v:Int))) w.heap.size L'∧Below w.heap.size w (wr.setCell ⟨w.heap.size,i,none⟩ (.int .u32 (v:Int))) :=
     ⟨i+1,k,_,by omega,by simp,rfl,ps,rs,bs⟩
    have Fin:=Lib.hid fin
    clear fin rs bs ps hT hR hB hAw hDw xb yb cb
    go_wp2_with (go_at_call 234;refine(ac _).mono ?_;rintro e w' ⟨rfl,rfl⟩)
    go_roundw
    case rel=>exact Fin.out
    case measure=>simp[intOf];omega
   ·have j1:¬ (i:Int)<(nb:Int):=by omega
    rw[at0_out (by omega)] at ps
    have ac:∀ w,Calls Tryz.prog 234 #[.int .u32 (x:Int), .int .u32 0, .int .u32 (c:Int)] w fun e w'=>e = .returned (.tuple #[.int .u32 (((x+0+c) % 4294967296:Nat):Int), .int .u32 (((x+0+c)/4294967296:Nat):Int)])∧w=w':=fun w=>add32 x 0 c w xb (by decide) cb
    generalize (x+0+c) % 4294967296=v at ac ps
    generalize (x+0+c)/4294967296=k at ac ps
    have rs:=hR.set i v
    have bs:Below w.heap.size w (wr.setCell ⟨w.heap.size,i,none⟩ (.int .u32 (v:Int))):=hB.setCell (p:=⟨w.heap.size,i,none⟩) (Nat.le_refl _) _
    have fin:∃ (k' c':Nat) (L':List Nat),k'≤na∧Value.int .i64 ((i:Int)+1) = .int .i64 (k':Int)∧Value.int .u32 (k:Int) = .int .u32 (c':Int)∧PIn a b L' k' c'∧Arr (wr.setCell ⟨w.heap.size,i,none⟩ (.int .u32 (v:Int))) w.heap.size L'∧Below w.heap.size w (wr.setCell ⟨w.heap.size,i,none⟩ (.int .u32 (v:Int))) :=
     ⟨i+1,k,_,by omega,by simp,rfl,ps,rs,bs⟩
    have Fin:=Lib.hid fin
    clear fin rs bs ps hT hR hB hAw xb yb cb
    go_wp2_with (go_at_call 234;refine(ac _).mono ?_;rintro e w' ⟨rfl,rfl⟩)
    go_roundw
    case rel=>exact Fin.out
    case measure=>simp[intOf];omega
  ·obtain rfl:i=na:=by omega
   have fL:=hR.free i
   have cL:=hR.cell (k:=i) (by omega)
   have rs:=hR.set i c
   have bs:Below w.heap.size w (wr.setCell ⟨w.heap.size,i,none⟩ (.int .u32 (c:Int))):=hB.setCell (p:=⟨w.heap.size,i,none⟩) (Nat.le_refl _) _
   have tf:val (L.set i c)=val a+val b∧Lb (L.set i c):=by rw[← la] at hT ⊢;exact hT.fin (by omega)
   have fin:FreshPost w (i+1) (fun L=>val L=val a+val b) (.returned (.slice (some ⟨w.heap.size,0,none⟩) (i+1) (i+1))) (wr.setCell ⟨w.heap.size,i,none⟩ (.int .u32 (c:Int))) :=
    ⟨_,rfl,by simp;omega,tf.2,tf.1,rs,bs⟩
   have Fin:=Lib.hid fin
   clear fin rs bs tf hT hR hB
   go_wp2
   refine bodyPost_ret (results_tmp rfl _ _ _) rfl ?_
   exact Fin.out
theorem plus_any (a b:List Nat) (A D:Option Addr) (na ca nb cb:Nat) (w:World) (hA:Lim w A na ca a) (hD:Lim w D nb cb b) (hn:na+nb+1≤1000000) :
  Calls Tryz.prog 213 #[.slice A na ca, .slice D nb cb] w (FreshPost w (max na nb+1) fun L=>val L=val a+val b):=by
 rcases Nat.lt_or_ge na nb with h|h
 ·rw[Nat.max_eq_right (Nat.le_of_lt h)]
  have:=plus_swap b a D A nb cb na ca w hD hA (by omega) h
  simpa only[Nat.add_comm (val a)] using this
 ·rw[Nat.max_eq_left h]
  exact plus_walk a b A D na ca nb cb w hA hD (by omega) h
theorem sgn_same (b:Bool) (X Y:Nat):sgn b (X+Y)=sgn b X+sgn b Y:=by
 cases b <;> simp[sgn] <;> omega
theorem sgn_ge {b c:Bool} (h:¬ b=c) {X Y:Nat} (hle:Y≤X):sgn b (X-Y)=sgn b X+sgn c Y:=by
 cases b <;> cases c <;> simp[sgn] at h ⊢ <;> omega
theorem sgn_lt {b c:Bool} (h:¬ b=c) {X Y:Nat} (hle:X<Y):sgn c (Y-X)=sgn b X+sgn c Y:=by
 cases b <;> cases c <;> simp[sgn] at h ⊢ <;> omega
theorem num_fin3 {w w':World} {x y:Bool} {u v:Value} {g k cap:Nat} {z:Int} {l:List Nat} (h:BX w x y u v w') (hM:Lim w' (some ⟨g,0,none⟩) k cap l) (hl:l=canon z.natAbs) (hg:w.heap.size+3≤g) :
  World.rangeAt (w'.setCells (w.heap.size+2) 0 [.bool (decide (z<0)), .slice (some ⟨g,0,none⟩) k cap]) (w.heap.size+2) 0 [.bool (decide (z<0)), .slice (some ⟨g,0,none⟩) k cap] ∧
  NumPost w z (.returned (.tuple #[.agg #[.bool (decide (z<0)), .slice (some ⟨g,0,none⟩) k cap], .int .i64 0])) (w'.setCells (w.heap.size+2) 0 [.bool (decide (z<0)), .slice (some ⟨g,0,none⟩) k cap]):=by
 subst hl
 exact num_fin h hM hg
theorem addB_walk (n1 n2:Bool) (X Y:Nat) (a d:Option Addr) (n ca m cd:Nat) (w:World) (hA:Lim w a n ca (canon X)) (hD:Lim w d m cd (canon Y)) (hn:n+m+1≤4096) :
  Calls Tryz.prog 194 #[.agg #[.bool n1, .slice a n ca], .agg #[.bool n2, .slice d m cd]] w (NumPost w (sgn n1 X+sgn n2 Y)):=by
 have hS0:=BX.new w n1 n2 (.slice a n ca) (.slice d m cd)
 have HA:=Lib.hid hA
 have HD:=Lib.hid hD
 have HS:=Lib.hid hS0
 have KA:=fun w' (h:BX w n1 n2 (.slice a n ca) (.slice d m cd) w')=>HA.out.below h.below
 have KD:=fun w' (h:BX w n1 n2 (.slice a n ca) (.slice d m cd) w')=>HD.out.below h.below
 have hcmp:=Lib.hid (compare_walk _ _ a d n ca m cd _ (KA _ hS0) (KD _ hS0))
 clear hA hD hS0 KA KD
 by_cases hq:n1=n2
 ·have SS:=Lib.hid (sgn_same n1 X Y)
  subst hq
  have SS2:=SS.out
  generalize cmpN X Y=cc at hcmp
  go_enter Tryz.func194,Tryz.ntmps194
  go_wp2_with (go_at_call 222;refine hcmp.out.mono ?_;rintro e w1 ⟨rfl,hb⟩;have hS:=HS.out.call hb;have s0:=hS.x0;have s1:=hS.y0;clear hb)
  have KA:=fun w' (h:BXS w n1 n1 (.slice a n ca) (.slice d m cd) w')=>HA.out.below h.2.2.2.2.2.2.2.2.below
  have KD:=fun w' (h:BXS w n1 n1 (.slice a n ca) (.slice d m cd) w')=>HD.out.below h.2.2.2.2.2.2.2.2.below
  have KC:=fun w' w2 (h:BXS w n1 n1 (.slice a n ca) (.slice d m cd) w') (hb:Below w'.heap.size w' w2)=>h.2.2.2.2.2.2.2.2.call hb
  have nl:∀ L:List Nat,Lb L→L.length=max n m+1→(canon (val L)).length≤4096:=fun L h1 h2=>by have:=canon_le L h1;omega
  have nc:∀ L:List Nat,∀ w2 g,Arr w2 g L→Lb L→L.length=max n m+1→Lim w2 (some ⟨g,0,none⟩) (max n m+1) (max n m+1) L:=fun L w2 g h1 h2 h3=>by have:=h1.lim (cap:=max n m+1) h2 (by omega) (by omega);rwa [h3] at this
  clear s0 s1
  go_region_held3 (fun w'=>w'.cell? ⟨w.heap.size,0,none⟩=some (.bool n1)∧w'.cell? ⟨w.heap.size,1,none⟩=some (.slice a n ca)∧w'.cell? ⟨w.heap.size+1,0,none⟩=some (.bool n1)∧w'.cell? ⟨w.heap.size+1,1,none⟩=some (.slice d m cd)∧w'.cell? ⟨w.heap.size+2,0,none⟩=some (cellOf w' ⟨w.heap.size+2,0,none⟩)∧w'.cell? ⟨w.heap.size+2,1,none⟩=some (cellOf w' ⟨w.heap.size+2,1,none⟩)∧w'.frozen? ⟨w.heap.size+2,0,none⟩=false∧w'.frozen? ⟨w.heap.size+2,1,none⟩=false∧BX w n1 n1 (.slice a n ca) (.slice d m cd) w') (first|exact BX.s (BX.drew hS)|exact BX.s hS|exact BX.s hk2|exact BX.s hk|exact BX.s (BX.set (BX.set hk2 _ _) _ _)|exact BX.s (by assumption)) (first|(go_at_call 213;refine(plus_any _ _ _ _ n ca m cd _ (KA _ (by assumption)) (KD _ (by assumption)) (by omega)).mono ?_;rintro e w' ⟨L,rfl,hL1,hL2,hL3,hL4,hb⟩;have hk:=KC _ _ (by assumption) hb;have HL3:=Lib.hid hL3;clear hb hL3)|(go_at_call 138;refine(made_walk _ L _ _ _ _ (nc L _ _ hL4 hL2 hL1) (nl L hL2 hL1)).mono ?_;rintro e w' ⟨rfl,hM,hb⟩;have hk2:=BX.call hk hb;clear hb))
  have e:val L=X+Y:=by rw[HL3.out,val_canon,val_canon]
  have hs:=hS.size
  clear HL3
  rw[e] at hM ⊢
  rw[SS.out]
  have F:=Lib.hid (num_fin3 (z:=sgn n1 X+sgn n1 Y) hk2 hM (by rw[← SS.out,sgn_abs]) (by simpa using hs))
  clear hM
  go_wp2_with fail
  exact bodyPost_ret (ret_cell_tmp Tryz.results194 _ _ (w.heap.size+2) [.bool _, .slice _ _ _] _ rfl F.out.1 Tryz.underlying66 rfl infoW) rfl F.out.2
 ·have b1:(n1==n2)=false:=by simpa using hq
  rcases Nat.lt_or_ge X Y with hle|hle
  ·have SS:=Lib.hid (sgn_lt hq hle)
   have Hv:=Lib.hid (show val (canon X)≤val (canon Y) by rw[val_canon,val_canon];omega)
   have hnm:n≤m:=by
    have h1:=canon_mono (Nat.le_of_lt hle)
    rw[HA.out.len,HD.out.len] at h1
    exact h1
   rw[cmp_lt hle] at hcmp
   clear hle hq
   go_enter Tryz.func194,Tryz.ntmps194
   go_wp2_with (go_at_call 222;refine hcmp.out.mono ?_;rintro e w1 ⟨rfl,hb⟩;have hS:=HS.out.call hb;have s0:=hS.x0;have s1:=hS.y0;clear hb)
   have KA:=fun w' (h:BXS w n1 n2 (.slice a n ca) (.slice d m cd) w')=>HA.out.below h.2.2.2.2.2.2.2.2.below
   have KD:=fun w' (h:BXS w n1 n2 (.slice a n ca) (.slice d m cd) w')=>HD.out.below h.2.2.2.2.2.2.2.2.below
   have KC:=fun w' w2 (h:BXS w n1 n2 (.slice a n ca) (.slice d m cd) w') (hb:Below w'.heap.size w' w2)=>h.2.2.2.2.2.2.2.2.call hb
   have nl:∀ L:List Nat,Lb L→L.length=m→(canon (val L)).length≤4096:=fun L h1 h2=>by have:=canon_le L h1;omega
   have nc:∀ L:List Nat,∀ w2 g,Arr w2 g L→Lb L→L.length=m→Lim w2 (some ⟨g,0,none⟩) (m) (m) L:=fun L w2 g h1 h2 h3=>by have:=h1.lim (cap:=m) h2 (by omega) (by omega);rwa [h3] at this
   clear s0 s1
   go_region_held3 (fun w'=>w'.cell? ⟨w.heap.size,0,none⟩=some (.bool n1)∧w'.cell? ⟨w.heap.size,1,none⟩=some (.slice a n ca)∧w'.cell? ⟨w.heap.size+1,0,none⟩=some (.bool n2)∧w'.cell? ⟨w.heap.size+1,1,none⟩=some (.slice d m cd)∧w'.cell? ⟨w.heap.size+2,0,none⟩=some (cellOf w' ⟨w.heap.size+2,0,none⟩)∧w'.cell? ⟨w.heap.size+2,1,none⟩=some (cellOf w' ⟨w.heap.size+2,1,none⟩)∧w'.frozen? ⟨w.heap.size+2,0,none⟩=false∧w'.frozen? ⟨w.heap.size+2,1,none⟩=false∧BX w n1 n2 (.slice a n ca) (.slice d m cd) w') (first|exact BX.s (BX.drew hS)|exact BX.s hS|exact BX.s hk2|exact BX.s hk|exact BX.s (BX.set (BX.set hk2 _ _) _ _)|exact BX.s (by assumption)) (first|(go_at_call 214;refine(minus_walk _ _ _ _ m cd n ca _ (KD _ (by assumption)) (KA _ (by assumption)) hnm Hv.out).mono ?_;rintro e w' ⟨L,rfl,hL1,hL2,hL3,hL4,hb⟩;have hk:=KC _ _ (by assumption) hb;have HL3:=Lib.hid hL3;clear hb hL3)|(go_at_call 138;refine(made_walk _ L _ _ _ _ (nc L _ _ hL4 hL2 hL1) (nl L hL2 hL1)).mono ?_;rintro e w' ⟨rfl,hM,hb⟩;have hk2:=BX.call hk hb;clear hb))
   have e:val L=Y-X:=by rw[HL3.out,val_canon,val_canon]
   have hs:=hS.size
   clear HL3
   rw[e] at hM ⊢
   rw[SS.out]
   have F:=Lib.hid (num_fin3 (z:=sgn n1 X+sgn n2 Y) hk2 hM (by rw[← SS.out,sgn_abs]) (by simpa using hs))
   clear hM
   go_wp2_with fail
   exact bodyPost_ret (ret_cell_tmp Tryz.results194 _ _ (w.heap.size+2) [.bool _, .slice _ _ _] _ rfl F.out.1 Tryz.underlying66 rfl infoW) rfl F.out.2
  ·have SS:=Lib.hid (sgn_ge hq hle)
   have Hv:=Lib.hid (show val (canon Y)≤val (canon X) by rw[val_canon,val_canon];omega)
   have hnm:m≤n:=by
    have h1:=canon_mono hle
    rw[HA.out.len,HD.out.len] at h1
    exact h1
   have hge:¬ cmpN X Y<0:=by
    rcases Nat.lt_or_eq_of_le hle with g|g
    ·rw[cmp_gt g];omega
    ·rw[g,cmp_eq];omega
   have hge':(0:Int)≤cmpN X Y:=by omega
   generalize cmpN X Y=cc at hcmp hge'
   clear hle hq hge
   go_enter Tryz.func194,Tryz.ntmps194
   go_wp2_with (go_at_call 222;refine hcmp.out.mono ?_;rintro e w1 ⟨rfl,hb⟩;have hS:=HS.out.call hb;have s0:=hS.x0;have s1:=hS.y0;clear hb)
   have KA:=fun w' (h:BXS w n1 n2 (.slice a n ca) (.slice d m cd) w')=>HA.out.below h.2.2.2.2.2.2.2.2.below
   have KD:=fun w' (h:BXS w n1 n2 (.slice a n ca) (.slice d m cd) w')=>HD.out.below h.2.2.2.2.2.2.2.2.below
   have KC:=fun w' w2 (h:BXS w n1 n2 (.slice a n ca) (.slice d m cd) w') (hb:Below w'.heap.size w' w2)=>h.2.2.2.2.2.2.2.2.call hb
   have nl:∀ L:List Nat,Lb L→L.length=n→(canon (val L)).length≤4096:=fun L h1 h2=>by have:=canon_le L h1;omega
   have nc:∀ L:List Nat,∀ w2 g,Arr w2 g L→Lb L→L.length=n→Lim w2 (some ⟨g,0,none⟩) (n) (n) L:=fun L w2 g h1 h2 h3=>by have:=h1.lim (cap:=n) h2 (by omega) (by omega);rwa [h3] at this
   clear s0 s1
   go_region_held3 (fun w'=>w'.cell? ⟨w.heap.size,0,none⟩=some (.bool n1)∧w'.cell? ⟨w.heap.size,1,none⟩=some (.slice a n ca)∧w'.cell? ⟨w.heap.size+1,0,none⟩=some (.bool n2)∧w'.cell? ⟨w.heap.size+1,1,none⟩=some (.slice d m cd)∧w'.cell? ⟨w.heap.size+2,0,none⟩=some (cellOf w' ⟨w.heap.size+2,0,none⟩)∧w'.cell? ⟨w.heap.size+2,1,none⟩=some (cellOf w' ⟨w.heap.size+2,1,none⟩)∧w'.frozen? ⟨w.heap.size+2,0,none⟩=false∧w'.frozen? ⟨w.heap.size+2,1,none⟩=false∧BX w n1 n2 (.slice a n ca) (.slice d m cd) w') (first|exact BX.s (BX.drew hS)|exact BX.s hS|exact BX.s hk2|exact BX.s hk|exact BX.s (BX.set (BX.set hk2 _ _) _ _)|exact BX.s (by assumption)) (first|(go_at_call 214;refine(minus_walk _ _ _ _ n ca m cd _ (KA _ (by assumption)) (KD _ (by assumption)) hnm Hv.out).mono ?_;rintro e w' ⟨L,rfl,hL1,hL2,hL3,hL4,hb⟩;have hk:=KC _ _ (by assumption) hb;have HL3:=Lib.hid hL3;clear hb hL3)|(go_at_call 138;refine(made_walk _ L _ _ _ _ (nc L _ _ hL4 hL2 hL1) (nl L hL2 hL1)).mono ?_;rintro e w' ⟨rfl,hM,hb⟩;have hk2:=BX.call hk hb;clear hb))
   have e:val L=X-Y:=by rw[HL3.out,val_canon,val_canon]
   have hs:=hS.size
   clear HL3
   rw[e] at hM ⊢
   rw[SS.out]
   have F:=Lib.hid (num_fin3 (z:=sgn n1 X+sgn n2 Y) hk2 hM (by rw[← SS.out,sgn_abs]) (by simpa using hs))
   clear hM
   go_wp2_with fail
   exact bodyPost_ret (ret_cell_tmp Tryz.results194 _ _ (w.heap.size+2) [.bool _, .slice _ _ _] _ rfl F.out.1 Tryz.underlying66 rfl infoW) rfl F.out.2
end Wd
namespace Wd
open Go.RowKit Lw Tw

theorem BX.sety {w0 w:World} {x y:Bool} {u v:Value} (h:BX w0 x y u v w) (y':Bool):BX w0 x y' u v (w.setCell ⟨w0.heap.size+1,0,none⟩ (.bool y')):=by
 refine⟨h.below.setCell (by simp) _,by simpa using h.size,?_,?_,?_,?_,there_setCell h.th _ _⟩
 ·exact(World.cell?_setCell_other _ _ _ _ (by simp)).trans h.x0
 ·exact(World.cell?_setCell_other _ _ _ _ (by simp)).trans h.x1
 ·exact World.cell?_setCell_same' _ _ _ (by rw[h.y0];rfl)
 ·exact(World.cell?_setCell_other _ _ _ _ (by simp)).trans h.y1
theorem two_lens {z1 z2:Int} {w:World} {a d:Option Addr} {n ca m cd:Nat} (hA:Lim w a n ca (canon z1.natAbs)) (hD:Lim w d m cd (canon z2.natAbs)) (hn:(canon z1.natAbs).length+(canon z2.natAbs).length+1≤4096):n+m+1≤4096:=by
 have la:=hA.len
 have ld:=hD.len
 omega
theorem sgn_self (z:Int):sgn (decide (z<0)) z.natAbs=z:=from_sgn z
theorem sgn_not (z:Int):sgn (!decide (z<0)) z.natAbs = -z:=by
 by_cases h:z<0 <;> simp[sgn,h] <;> omega
theorem addZ_any (V1 V2:Value) (z1 z2:Int) (w:World) (h1:Wide 0 w V1 z1) (h2:Wide 0 w V2 z2) (hn:(canon z1.natAbs).length+(canon z2.natAbs).length+1≤4096) :
  Calls Tryz.prog 146 #[V1,V2] w (NumPost w (z1+z2)):=by
 obtain⟨a,n,ca,rfl,hA, -⟩:=h1
 obtain⟨d,m,cd,rfl,hD, -⟩:=h2
 have hnm:=two_lens hA hD hn
 have hS0:=BX.new w (decide (z1<0)) (decide (z2<0)) (.slice a n ca) (.slice d m cd)
 have HC:=Lib.hid (check_walk _ _ 2 2 _ (two_row z1 z2 a d n ca m cd w hA hD (by omega) (by omega)) (by omega))
 have HS:=Lib.hid hS0.row
 have HA:=Lib.hid hA
 have HD:=Lib.hid hD
 have AW:=Lib.hid (fun w' (hA:Lim w' a n ca (canon z1.natAbs)) (hD:Lim w' d m cd (canon z2.natAbs))=>addB_walk (decide (z1<0)) (decide (z2<0)) z1.natAbs z2.natAbs a d n ca m cd w' hA hD hnm)
 rw[sgn_self,sgn_self] at AW
 clear hA hD hS0 hn hnm
 generalize decide (z1<0)=n1 at *
 generalize decide (z2<0)=n2 at *
 go_enter Tryz.func146,Tryz.ntmps146
 go_wp2_with fail
 refine HC.out.mono ?_
 rintro e w1 ⟨rfl,hb⟩
 have hS:=HS.out.call hb
 obtain⟨s1,s2,s3,s4, -⟩:=hS.s
 have hs:=hS.size
 have aw:=AW.out w1 (HA.out.below hS.below) (HD.out.below hS.below)
 have HSS:=Lib.hid hS
 clear hb HS HC hS
 go_wp2_with fail
 refine aw.mono ?_
 rintro e w2 ⟨V,rfl,⟨a',k,cap,rfl,hM,hg⟩,hb⟩
 have hS2:=HSS.out.call hb
 obtain⟨-, -, -, -,s5,s6,s7,s8, -⟩:=hS2.s
 have F:=Lib.hid (num_fin2 hS2 hM (fun b off e=>Nat.le_trans hs (hg b off e)))
 clear s1 s2 s3 s4 aw hb hM hg HSS hS2
 go_wp2_with fail
 exact bodyPost_ret (ret_cell_tmp Tryz.results146 _ _ (w.heap.size+2) [.bool _, .slice _ _ _] _ rfl F.out.1 Tryz.underlying66 rfl infoW) rfl F.out.2
theorem subZ_any (V1 V2:Value) (z1 z2:Int) (w:World) (h1:Wide 0 w V1 z1) (h2:Wide 0 w V2 z2) (hn:(canon z1.natAbs).length+(canon z2.natAbs).length+1≤4096) :
  Calls Tryz.prog 183 #[V1,V2] w (NumPost w (z1-z2)):=by
 obtain⟨a,n,ca,rfl,hA, -⟩:=h1
 obtain⟨d,m,cd,rfl,hD, -⟩:=h2
 have hnm:=two_lens hA hD hn
 have hS0:=BX.new w (decide (z1<0)) (decide (z2<0)) (.slice a n ca) (.slice d m cd)
 have HC:=Lib.hid (check_walk _ _ 2 2 _ (two_row z1 z2 a d n ca m cd w hA hD (by omega) (by omega)) (by omega))
 have HS:=Lib.hid hS0.row
 have HA:=Lib.hid hA
 have HD:=Lib.hid hD
 have AW:=Lib.hid (fun w' (hA:Lim w' a n ca (canon z1.natAbs)) (hD:Lim w' d m cd (canon z2.natAbs))=>addB_walk (decide (z1<0)) (!decide (z2<0)) z1.natAbs z2.natAbs a d n ca m cd w' hA hD hnm)
 rw[sgn_self,sgn_not,← Int.sub_eq_add_neg] at AW
 have FF:=((((Fr.start w).alloc [.bool (decide (z1<0)), .slice a n ca] 66).alloc [.bool (decide (z2<0)), .slice d m cd] 66).alloc [.bool false, .slice none 0 0] 66).alloc [.bool (decide (z1<0)), .slice a n ca, .bool (decide (z2<0)), .slice d m cd] 66
 simp only[World.size_alloc] at FF
 have FF:=Lib.hid FF
 clear hA hD hS0 hn hnm
 generalize decide (z1<0)=n1 at *
 generalize decide (z2<0)=n2 at *
 go_enter Tryz.func183,Tryz.ntmps183
 go_wp2_with fail
 refine HC.out.mono ?_
 rintro e w1 ⟨rfl,hb⟩
 have hS:=HS.out.call hb
 have hy:=hS.sety (!n2)
 obtain⟨s1,s2,s3,s4, -⟩:=hS.s
 obtain⟨t1,t2,t3,t4, -⟩:=hy.s
 have hs:=hy.size
 have aw:=AW.out _ (HA.out.below hy.below) (HD.out.below hy.below)
 have HSS:=Lib.hid hy
 have fz:w1.frozen? ⟨w.heap.size+1,0,none⟩=false:=(FF.out.call hb).fz 2 0 rfl rfl
 clear hb HS HC hS hy FF
 go_wp2_with fail
 refine aw.mono ?_
 rintro e w2 ⟨V,rfl,⟨a',k,cap,rfl,hM,hg⟩,hb⟩
 have hS2:=HSS.out.call hb
 obtain⟨-, -, -, -,s5,s6,s7,s8, -⟩:=hS2.s
 have F:=Lib.hid (num_fin2 hS2 hM (fun b off e=>Nat.le_trans hs (hg b off e)))
 clear s1 s2 s3 s4 t1 t2 t3 t4 fz aw hb hM hg HSS hS2
 go_wp2_with fail
 exact bodyPost_ret (ret_cell_tmp Tryz.results183 _ _ (w.heap.size+2) [.bool _, .slice _ _ _] _ rfl F.out.1 Tryz.underlying66 rfl infoW) rfl F.out.2
end Wd
end Go.Proofs.YtdnogmanbdgadaaGreatDoor
