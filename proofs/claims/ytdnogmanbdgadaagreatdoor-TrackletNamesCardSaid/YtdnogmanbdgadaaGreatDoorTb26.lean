/-
  Lemmas and walks, texts joined: QInt, QRnd, QLin1.
-/
import Derived.Test.YtdnogmanbdgadaaGreatDoorTb25
import Derived.Test.YtdnogmanbdgadaaGreatDoorTb11
set_option linter.unusedSimpArgs false
set_option linter.unusedVariables false
set_option maxRecDepth 100000
set_option maxHeartbeats 40000000
namespace Go.Proofs.YtdnogmanbdgadaaGreatDoor
namespace Wd
open Go.RowKit Lw Tw

def intE (z:Int):Int×Int:=if -9223372036854775808≤z∧z<9223372036854775808 then(z,0) else(0,16)
theorem or_lo (h l:Nat) (hh:h<4294967296) (hl:l<4294967296):bits .or .u64 (l:Int) ((h:Int)*4294967296)=((h*4294967296+l:Nat):Int):=by
 rw[← or_sum h l hh hl]
 rw[show ((h:Int)*4294967296)=((h*4294967296:Nat):Int) by rw[Int.natCast_mul];rfl]
 rw[u64_or_nat _ _ (by omega) (by omega),u64_or_nat _ _ (by omega) (by omega),Nat.or_comm]
theorem or_zero64 (x:Nat) (h:x<4294967296):bits .or .u64 0 (x:Int)=(x:Int):=by
 have:=u64_or_nat 0 x (by decide) (by omega)
 simpa using this
theorem val_two (l:List Nat) (hl:l.length≤2):val l=(l[0]?.getD 0)+4294967296*(l[1]?.getD 0):=by
 match l,hl with
 | [],_=>rfl
 | [a],_=>simp[val]
 | [a,b],_=>simp[val]
theorem big_len {n:Nat} (h:2<(canon n).length):18446744073709551616≤n:=by
 rcases Nat.lt_or_ge n 18446744073709551616 with g|g
 ·have:=canon_len 2 n (by omega);omega
 ·exact g
theorem int_any (V:Value) (z:Int) (w:World) (h:Wide 0 w V z) (hl:(canon z.natAbs).length≤4096) :
  Calls Tryz.prog 130 #[V] w fun e w'=>e = .returned (.tuple #[.int .i64 (intE z).1, .int .i64 (intE z).2])∧Below w.heap.size w w':=by
 obtain⟨a,n,ca,rfl,hA, -⟩:=h
 have la:=hA.len
 have FA:=(Fr.start w).alloc [.bool (decide (z<0)), .slice a n ca] 66
 have F0:=FA.alloc [.bool (decide (z<0)), .slice a n ca] 66
 have hR:WRow ((w.alloc (.cells #[.bool (decide (z<0)), .slice a n ca] 66)).alloc (.cells #[.bool (decide (z<0)), .slice a n ca] 66)) (w.heap.size+1) 1 (fun _=>z):=by
  refine⟨by simp,fun k hk=>?_⟩
  obtain rfl:k=0:=by omega
  have r:=rangeAt_new (w.alloc (.cells #[.bool (decide (z<0)), .slice a n ca] 66)) [.bool (decide (z<0)), .slice a n ca] 66
  simp only[World.size_alloc] at r
  exact⟨a,n,ca,r 0 _ rfl,r 1 _ rfl,hA.below F0.below,by omega⟩
 have HC:=Lib.hid (check_walk _ _ 1 1 _ hR (by omega))
 simp only[World.size_alloc] at F0
 replace F0:=Lib.hid F0
 have HA:=Lib.hid hA
 clear hA FA hR
 rcases Nat.lt_or_ge 2 n with hn|hn
 ·have e1:intE z=(0,16):=by
   have:=big_len (n:=z.natAbs) (by omega)
   unfold intE
   rw[if_neg (by omega)]
  have k1:(2:Int)<(n:Int):=by omega
  rw[e1]
  generalize decide (z<0)=sz at *
  clear hl la hn e1
  go_enter Tryz.func130,Tryz.ntmps130
  go_wp2_with fail
  refine HC.out.mono ?_
  rintro e w1 ⟨rfl,hb⟩
  have F1:=F0.out.call hb
  obtain⟨c0,c1⟩:=F1.c2 1 rfl
  have B:=Lib.hid F1.below
  clear hb F1
  go_wp2_with fail
  exact bodyPost_ret (results_tmp2 rfl _ _ _) rfl ⟨rfl,B.out⟩
 ·have k1:¬ (2:Int)<(n:Int):=by omega
  have hz:z.natAbs<18446744073709551616:=by
   have:=val_lt _ (lb_canon z.natAbs)
   rw[val_canon] at this
   have h2:(4294967296:Nat) ^ (canon z.natAbs).length≤4294967296 ^ 2:=Nat.pow_le_pow_right (by decide) (by omega)
   omega
  have vt:=val_two (canon z.natAbs) (by omega)
  rw[val_canon] at vt
  have lb:=lb_canon z.natAbs
  generalize hZ:z.natAbs=Z at *
  generalize canon Z=L at *
  have HV:Hid (∀ i,i≤n→i≤2∧(i=0→val (L.take i)=0)∧(n≤i→val (L.take i)=Z)):=Lib.hid (fun i hi=>⟨by omega,fun e=>by subst e;rfl,fun h=>by
   rw[List.take_of_length_le (by omega),val_two L (by omega)];omega⟩)
  have HT:Hid (∀ i (h:i<L.length),val (L.take (i+1))=val (L.take i)+4294967296 ^ i*L[i]):=Lib.hid (fun i h=>val_take L i h)
  have HB:Hid (∀ i,val (L.take i)<4294967296 ^ i):=Lib.hid (fun i=>by
   have h1:=val_lt (L.take i) (fun x hx=>lb x (List.mem_of_mem_take hx))
   have h2:(4294967296:Nat) ^ (L.take i).length≤4294967296 ^ i:=Nat.pow_le_pow_right (by decide) (by rw[List.length_take];omega)
   omega)
  have KK:=Lib.hid (And.intro hZ hz)
  have LB:=Lib.hid lb
  clear lb vt hl hZ hz
  generalize hsz:decide (z<0)=sz at *
  replace hsz:=Lib.hid hsz
  go_enter Tryz.func130,Tryz.ntmps130
  go_wp2_with fail
  refine HC.out.mono ?_
  rintro e w1 ⟨rfl,hb⟩
  have F1:=F0.out.call hb
  obtain⟨c0,c1⟩:=F1.c2 1 rfl
  have B:=Lib.hid F1.below
  have HL:=Lib.hid (HA.out.below F1.below)
  clear hb F1 F0 HC HA
  go_wp2_with fail
  go_loopw [5,21] (fun u i wr=>∃ k:Nat,k≤n∧i = .int .i64 k∧u = .int .u64 (val (L.take k):Int)∧wr=w1) (fun _ i _=>n-(intOf i).toNat)
  case atStart=>exact⟨0,by omega,rfl,rfl,rfl⟩
  case round =>
   obtain⟨k,hk,rfl,rfl,rfl⟩:=hrel
   by_cases hlt:k<n
   ·obtain⟨bA,oA,rfl, -, -⟩:=HL.out.row (by omega)
    have cA:=HL.out.cell (k:=k) (by omega)
    have i1:(k:Int)<(n:Int):=by omega
    have xb:=lb_get LB.out (k:=k) (by omega)
    have ht:=HT.out k (by omega)
    have hB:=HB.out k
    generalize L[k]'(by omega)=x at *
    rcases(show k=0∨k=1 by omega) with rfl|rfl
    ·have hu:val (L.take 0)=0:=rfl
     have ho:=or_zero64 x xb
     have ws:IntKind.u64.wrap (x:Int)=(x:Int):=by rw[IntKind.wrap_u64];omega
     rw[hu] at ht ⊢
     have ht2:((x:Nat):Int)=(val (L.take 1):Int):=by rw[ht];simp
     replace ht2:=Lib.hid ht2
     simp only[Nat.add_zero] at cA
     rw[show ((0:Nat):Int)=0 from rfl] at *
     clear ht hu hB
     go_wp2_with fail
     go_roundw
     case rel=>exact⟨1,by omega,rfl,by rw[← ht2.out],trivial⟩
     case measure=>simp[intOf];omega
    ·have ho:=or_lo x (val (L.take 1)) xb (by simpa using hB)
     have ws:IntKind.u64.wrap (x:Int)=(x:Int):=by rw[IntKind.wrap_u64];omega
     have ht2:((x*4294967296+val (L.take 1):Nat):Int)=(val (L.take 2):Int):=by rw[ht,Nat.pow_one];omega
     replace ht2:=Lib.hid ht2
     generalize val (L.take 1)=y at *
     rw[show ((1:Nat):Int)=1 from rfl] at *
     clear ht hB
     go_wp2_with fail
     go_roundw
     case rel=>exact⟨2,by omega,rfl,by rw[← ht2.out,Int.natCast_add,Int.natCast_mul];rfl,trivial⟩
     case measure=>simp[intOf];omega
   ·obtain rfl:k=n:=by omega
    have hv:=(HV.out k (by omega)).2.2 (by omega)
    rw[hv]
    have hz:=KK.out.1
    have hz2:=KK.out.2
    clear HV HT HB LB hv HL
    by_cases s1:z<0
    ·have hs:sz=true:=by rw[← hsz.out,decide_eq_true s1]
     subst hs
     by_cases s2:Z≤9223372036854775808
     ·have g1:(Z:Int)≤9223372036854775808:=by omega
      have r1:IntKind.u64.wrap (-(Z:Int))=18446744073709551616-(Z:Int):=by rw[IntKind.wrap_u64];omega
      have r2:IntKind.i64.wrap (18446744073709551616-(Z:Int)) = -(Z:Int):=by rw[IntKind.wrap_i64];omega
      have e1:Hid (intE z=(-(Z:Int),0)):=Lib.hid (by unfold intE;rw[if_pos (by omega)];congr 1;omega)
      clear s1 s2 hz hz2 KK hsz
      go_wp2_with fail
      refine bodyPost_ret (results_tmp2 rfl _ _ _) rfl ⟨?_,B.out⟩
      rw[e1.out]
      rfl
     ·have g1:¬ (Z:Int)≤9223372036854775808:=by omega
      have e1:Hid (intE z=(0,16)):=Lib.hid (by unfold intE;rw[if_neg (by omega)])
      clear s1 s2 hz hz2 KK hsz
      go_wp2_with fail
      refine bodyPost_ret (results_tmp2 rfl _ _ _) rfl ⟨?_,B.out⟩
      rw[e1.out]
      rfl
    ·have hs:sz=false:=by rw[← hsz.out,decide_eq_false s1]
     subst hs
     by_cases s2:Z<9223372036854775808
     ·have g1:(Z:Int)<9223372036854775808:=by omega
      have r2:IntKind.i64.wrap (Z:Int)=(Z:Int):=by rw[IntKind.wrap_i64];omega
      have e1:Hid (intE z=((Z:Int),0)):=Lib.hid (by unfold intE;rw[if_pos (by omega)];congr 1;omega)
      clear s1 s2 hz hz2 KK hsz
      go_wp2_with fail
      refine bodyPost_ret (results_tmp2 rfl _ _ _) rfl ⟨?_,B.out⟩
      rw[e1.out]
      rfl
     ·have g1:¬ (Z:Int)<9223372036854775808:=by omega
      have e1:Hid (intE z=(0,16)):=Lib.hid (by unfold intE;rw[if_neg (by omega)])
      clear s1 s2 hz hz2 KK hsz
      go_wp2_with fail
      refine bodyPost_ret (results_tmp2 rfl _ _ _) rfl ⟨?_,B.out⟩
      rw[e1.out]
      rfl
end Wd
namespace Wd
open Go.RowKit Lw Tw

theorem quot_abs (n:Int) (d:Nat) (hd:0<d):(n/(d:Int)).natAbs≤n.natAbs+1:=by
 have h0:0<(d:Int):=by omega
 rcases Int.le_total 0 n with g|g
 ·have:=Int.ediv_le_self (d:Int) g
  have:=Int.ediv_nonneg g (Int.le_of_lt h0)
  omega
 ·have h3:n≤n/(d:Int):=Int.le_ediv_of_mul_le h0 (by
   have:=Int.mul_le_mul_of_nonpos_left g (show 1≤(d:Int) by omega)
   omega)
  have h4:n/(d:Int)≤0:=by
   rcases Int.lt_or_le 0 (n/(d:Int)) with q|q
   ·have:=Int.mul_le_of_le_ediv h0 (show (1:Int)≤n/(d:Int) by omega)
    omega
   ·exact q
  omega
theorem round_len {r:Rat} {L:Nat} (h:FL r L):(canon (Ls.roundR r).natAbs).length≤L+2:=by
 have h1:=quot_abs r.num r.den r.den_pos
 have h2:(Ls.roundR r).natAbs≤(r.num.natAbs+1)+1:=by
  unfold Ls.roundR
  split <;> omega
 have l1:(canon 1).length≤1:=canon_len 1 1 (by decide)
 have l2:1≤(canon r.den).length:=(canon_lenpos r.den).2 r.den_pos
 have hd:=h.d
 exact Nat.le_trans (canon_mono h2) (len_addN (len_addN h.n (by omega)) (by omega))
theorem rounded_any (V:Value) (r:Rat) (w:World) (h:FracR 0 w V r) (lp:FL r 900) :
  Calls Tryz.prog 81 #[V] w fun e w'=>e = .returned (.tuple #[.int .i64 (intE (Ls.roundR r)).1, .int .i64 (intE (Ls.roundR r)).2])∧Below w.heap.size w w':=by
 have RO:=Lib.hid (fun w' (hb:Below w.heap.size w w')=>fround_any V r w' (h.below hb) lp)
 have ll:=round_len lp
 have IT:=Lib.hid (fun V w' (h:Wide 0 w' V (Ls.roundR r))=>int_any V _ w' h (Nat.le_trans ll (by decide)))
 obtain⟨a,k,c,a',k',c',rfl, -, -, -, -⟩:=h
 have F0:=Lib.hid ((Fr.start w).alloc (frV (decide (r.num<0)) a k c false a' k' c') 68)
 generalize Ls.roundR r=z at *
 generalize decide (r.num<0)=n at *
 generalize (intE z).1=p at *
 generalize (intE z).2=q at *
 clear lp ll
 go_enter Tryz.func81,Tryz.ntmps81
 go_wp2_with fail
 refine(RO.out _ F0.out.below).mono ?_
 rintro e w1 ⟨V,rfl,hV,hb⟩
 have F1:=F0.out.call hb
 have HV:=Lib.hid (hV.mono (Nat.zero_le _))
 obtain⟨az,kz,cz,rfl, -, -⟩:=hV
 have F2:=Lib.hid (F1.alloc (wdV (decide (z<0)) az kz cz) 66)
 have HV2:=Lib.hid (HV.out.below ((Below.refl _ w1).alloc (Nat.le_refl _) (.cells (wdV (decide (z<0)) az kz cz).toArray 66)))
 clear hb F1 F0 HV RO
 go_wp2_with fail
 refine(IT.out _ _ HV2.out).mono ?_
 rintro e w3 ⟨rfl,hb⟩
 have B:=Lib.hid (F2.out.call hb).below
 clear hb F2 HV2
 go_wp2_with fail
 exact bodyPost_ret (results_tmp2 rfl _ _ _) rfl ⟨rfl,B.out⟩
/-! ### Calculating with whole numbers where nothing is out of range -/
def WPost (w:World) (z:Int) (e:Ending) (w':World):Prop:=∃ V,e = .returned V∧Wide w.heap.size w' V z∧Below w.heap.size w w'
theorem lmul_any (V1 V2:Value) (z1 z2:Int) (w:World) (h1:Wide 0 w V1 z1) (h2:Wide 0 w V2 z2) (hn:(canon z1.natAbs).length+(canon z2.natAbs).length≤4096) :
  Calls Tryz.prog 204 #[V1,V2] w (WPost w (z1*z2)):=by
 have OP:=Lib.hid (fun w' (hb:Below w.heap.size w w')=>mul_walk V1 V2 z1 z2 w' (h1.below hb) (h2.below hb) hn)
 obtain⟨a1,i1,c1,rfl, -, -⟩:=h1
 obtain⟨a2,i2,c2,rfl, -, -⟩:=h2
 have F0:=((Fr.start w).alloc (wdV (decide (z1<0)) a1 i1 c1) 66).alloc (wdV (decide (z2<0)) a2 i2 c2) 66 |>.alloc [.bool false, .slice none 0 0] 66
 simp only[World.size_alloc] at F0
 replace F0:=Lib.hid F0
 generalize decide (z1<0)=n1 at *
 generalize decide (z2<0)=n2 at *
 generalize z1*z2=z at *
 go_enter Tryz.func204,Tryz.ntmps204
 go_wp2_with fail
 refine(OP.out _ F0.out.below).mono ?_
 rintro e w1 ⟨V,rfl,⟨a3,i3,c3,rfl,hL,hg⟩,hb⟩
 have F1:=F0.out.call hb
 have lo:=(F0.out.least 0 rfl).2
 have hba:=(Below.refl _ w1).alloc (Nat.le_refl _) (.cells (wdV (decide (z<0)) a3 i3 c3).toArray 66)
 have F2:=F1.alloc (wdV (decide (z<0)) a3 i3 c3) 66
 try simp only[World.size_alloc] at F2
 obtain⟨g0,g1⟩:=F2.c2 0 rfl
 obtain⟨u0,u1⟩:=F2.c2 1 rfl
 obtain⟨v0,v1⟩:=F2.f2 1 rfl
 have PP:=F2.put 1 rfl (wdV (decide (z<0)) a3 i3 c3) rfl
 have R:=Lib.hid (show Wide w.heap.size ((w1.alloc (.cells (wdV (decide (z<0)) a3 i3 c3).toArray 66)).setCells (w.heap.size+1+1) 0 (wdV (decide (z<0)) a3 i3 c3)) (.agg (wdV (decide (z<0)) a3 i3 c3).toArray) z from wideOf ((hL.below hba).setCells (fun b off e=>by have:=hg b off e;omega) _ _) (fun b off e=>by have:=hg b off e;omega))
 have G:=Lib.hid (PP.get 1 rfl)
 have B:=Lib.hid PP.below
 clear hb hba hL hg F1 F2 F0 PP lo OP
 go_wp2_with fail
 exact bodyPost_ret (ret_cell Tryz.results204 _ _ (w.heap.size+1+1) _ _ rfl G.out Tryz.underlying66 rfl infoW) rfl ⟨_,rfl,R.out,B.out⟩
theorem lsub_any (V1 V2:Value) (z1 z2:Int) (w:World) (h1:Wide 0 w V1 z1) (h2:Wide 0 w V2 z2) (hn:(canon z1.natAbs).length+(canon z2.natAbs).length+1≤4096) :
  Calls Tryz.prog 208 #[V1,V2] w (WPost w (z1-z2)):=by
 have OP:=Lib.hid (fun w' (hb:Below w.heap.size w w')=>subZ_any V1 V2 z1 z2 w' (h1.below hb) (h2.below hb) hn)
 obtain⟨a1,i1,c1,rfl, -, -⟩:=h1
 obtain⟨a2,i2,c2,rfl, -, -⟩:=h2
 have F0:=((Fr.start w).alloc (wdV (decide (z1<0)) a1 i1 c1) 66).alloc (wdV (decide (z2<0)) a2 i2 c2) 66 |>.alloc [.bool false, .slice none 0 0] 66
 simp only[World.size_alloc] at F0
 replace F0:=Lib.hid F0
 generalize decide (z1<0)=n1 at *
 generalize decide (z2<0)=n2 at *
 generalize z1-z2=z at *
 go_enter Tryz.func208,Tryz.ntmps208
 go_wp2_with fail
 refine(OP.out _ F0.out.below).mono ?_
 rintro e w1 ⟨V,rfl,⟨a3,i3,c3,rfl,hL,hg⟩,hb⟩
 have F1:=F0.out.call hb
 have lo:=(F0.out.least 0 rfl).2
 have hba:=(Below.refl _ w1).alloc (Nat.le_refl _) (.cells (wdV (decide (z<0)) a3 i3 c3).toArray 66)
 have F2:=F1.alloc (wdV (decide (z<0)) a3 i3 c3) 66
 try simp only[World.size_alloc] at F2
 obtain⟨g0,g1⟩:=F2.c2 0 rfl
 obtain⟨u0,u1⟩:=F2.c2 1 rfl
 obtain⟨v0,v1⟩:=F2.f2 1 rfl
 have PP:=F2.put 1 rfl (wdV (decide (z<0)) a3 i3 c3) rfl
 have R:=Lib.hid (show Wide w.heap.size ((w1.alloc (.cells (wdV (decide (z<0)) a3 i3 c3).toArray 66)).setCells (w.heap.size+1+1) 0 (wdV (decide (z<0)) a3 i3 c3)) (.agg (wdV (decide (z<0)) a3 i3 c3).toArray) z from wideOf ((hL.below hba).setCells (fun b off e=>by have:=hg b off e;omega) _ _) (fun b off e=>by have:=hg b off e;omega))
 have G:=Lib.hid (PP.get 1 rfl)
 have B:=Lib.hid PP.below
 clear hb hba hL hg F1 F2 F0 PP lo OP
 go_wp2_with fail
 exact bodyPost_ret (ret_cell Tryz.results208 _ _ (w.heap.size+1+1) _ _ rfl G.out Tryz.underlying66 rfl infoW) rfl ⟨_,rfl,R.out,B.out⟩
theorem ldiv_any (V1 V2:Value) (z1:Int) (Y:Nat) (w:World) (h1:Wide 0 w V1 z1) (h2:Wide 0 w V2 (Y:Int)) (hY:0<Y) (hx:(canon z1.natAbs).length≤4000) (hy:(canon Y).length≤4000) :
  Calls Tryz.prog 205 #[V1,V2] w (WPost w (z1/(Y:Int))):=by
 have OP:=Lib.hid (fun w' (hb:Below w.heap.size w w')=>divmod_any V1 V2 z1 Y w' (h1.below hb) (h2.below hb) hY hx hy)
 obtain⟨a1,i1,c1,rfl, -, -⟩:=h1
 obtain⟨a2,i2,c2,rfl, -, -⟩:=h2
 have F0:=((Fr.start w).alloc (wdV (decide (z1<0)) a1 i1 c1) 66).alloc (wdV (decide ((Y:Int)<0)) a2 i2 c2) 66 |>.alloc [.bool false, .slice none 0 0] 66
 simp only[World.size_alloc] at F0
 replace F0:=Lib.hid F0
 generalize decide (z1<0)=n1 at *
 generalize decide ((Y:Int)<0)=n2 at *
 generalize z1/(Y:Int)=z at *
 generalize z1 % (Y:Int)=zr at *
 go_enter Tryz.func205,Tryz.ntmps205
 go_wp2_with fail
 refine(OP.out _ F0.out.below).mono ?_
 rintro e w1 ⟨V,U,rfl,⟨a3,i3,c3,rfl,hL,hg⟩,⟨a4,i4,c4,rfl, -, -⟩,hb⟩
 have F1:=F0.out.call hb
 have lo:=(F0.out.least 0 rfl).2
 have hba:=((Below.refl _ w1).alloc (Nat.le_refl _) (.cells (wdV (decide (z<0)) a3 i3 c3).toArray 66)).alloc (by simp) (.cells (wdV (decide (zr<0)) a4 i4 c4).toArray 66)
 have F2:=(F1.alloc (wdV (decide (z<0)) a3 i3 c3) 66).alloc (wdV (decide (zr<0)) a4 i4 c4) 66
 try simp only[World.size_alloc] at F2
 obtain⟨g0,g1⟩:=F2.c2 1 rfl
 obtain⟨u0,u1⟩:=F2.c2 2 rfl
 obtain⟨v0,v1⟩:=F2.f2 2 rfl
 have PP:=F2.put 2 rfl (wdV (decide (z<0)) a3 i3 c3) rfl
 have R:=Lib.hid (show Wide w.heap.size (((w1.alloc (.cells (wdV (decide (z<0)) a3 i3 c3).toArray 66)).alloc (.cells (wdV (decide (zr<0)) a4 i4 c4).toArray 66)).setCells (w.heap.size+1+1) 0 (wdV (decide (z<0)) a3 i3 c3)) (.agg (wdV (decide (z<0)) a3 i3 c3).toArray) z from wideOf ((hL.below hba).setCells (fun b off e=>by have:=hg b off e;omega) _ _) (fun b off e=>by have:=hg b off e;omega))
 have G:=Lib.hid (PP.get 2 rfl)
 have B:=Lib.hid PP.below
 clear hb hba hL hg F1 F2 F0 PP lo OP
 go_wp2_with fail
 exact bodyPost_ret (ret_cell Tryz.results205 _ _ (w.heap.size+1+1) _ _ rfl G.out Tryz.underlying66 rfl infoW) rfl ⟨_,rfl,R.out,B.out⟩
theorem lzero_any (b:Bool) (a:Option Addr) (n cap:Nat) (w:World) (hn:0<n):Calls Tryz.prog 206 #[.agg #[.bool b, .slice a n cap]] w fun e w'=>e = .returned (.bool false)∧Below w.heap.size w w':=by
 have hB:=(Below.refl w.heap.size w).alloc (Nat.le_refl _) (.cells #[.bool b, .slice a n cap] 66)
 have HB:=Lib.hid hB
 have k:¬ (n:Int)=0:=by omega
 clear hB
 go_enter Tryz.func206,Tryz.ntmps206
 go_wp2_with fail
 refine bodyPost_ret (results_tmp rfl _ _ _) rfl ⟨?_,HB.out⟩
 simp
 omega
end Wd
namespace Wd
open Go.RowKit Lw Tw

abbrev iE (x:Int):List Value:=[.int .i64 x]
def I6 (w:World) (v:Value) (l:List Int):Prop:=∃ A cap,v = .slice A l.length cap∧RowsG 1 iE w A l
theorem I6.below {w w':World} {v:Value} {l:List Int} (h:I6 w v l) (hb:Below w.heap.size w w'):I6 w' v l:=by
 obtain⟨A,cap,e,h⟩:=h
 exact⟨A,cap,e,h.below hb⟩
theorem rows_cell1 {w:World} {A:Option Addr} {l:List Int} (h:RowsG 1 iE w A l) {i:Nat} (hi:i<l.length):∃ g,A=some ⟨g,0,none⟩∧g<w.heap.size∧w.cell? ⟨g,i,none⟩=some (.int .i64 l[i]):=by
 obtain⟨g,e,lt,r⟩:=h.row i hi
 refine⟨g,e,lt,?_⟩
 have:=r 0 _ rfl
 rwa [Nat.mul_one,Nat.add_zero] at this
def R2 (w:World) (v:Value) (ts:List Int):Prop:=∃ A cap,∃ sls:List Sl,v = .slice A ts.length cap∧sls.length=ts.length∧RowsG 1 slE w A sls ∧ ∀ i (h:i<ts.length) (h':i<sls.length),I6 w (.slice sls[i].a sls[i].n sls[i].c) [1,ts[i]]∧sls[i].n=2
theorem R2.below {w w':World} {v:Value} {ts:List Int} (h:R2 w v ts) (hb:Below w.heap.size w w'):R2 w' v ts:=by
 obtain⟨A,cap,sls,e,hl,hr,h⟩:=h
 exact⟨A,cap,sls,e,hl,hr.below hb,fun i h1 h2=>⟨(h i h1 h2).1.below hb,(h i h1 h2).2⟩⟩
theorem R2.cell {w:World} {A:Option Addr} {n cap:Nat} {ts:List Int} (h:R2 w (.slice A n cap) ts) {i:Nat} (hi:i<ts.length) :
  ∃ g a c,A=some ⟨g,0,none⟩∧n=ts.length∧g<w.heap.size∧w.cell? ⟨g,i,none⟩=some (.slice a 2 c)∧I6 w (.slice a 2 c) [1,ts[i]]:=by
 obtain⟨A',cap',sls,e,hl,hr,h⟩:=h
 cases e
 obtain⟨g,e,lt,r⟩:=hr.row i (by omega)
 have hc:=r 0 _ rfl
 rw[Nat.mul_one,Nat.add_zero] at hc
 obtain⟨h1,h2⟩:=h i hi (by omega)
 rw[h2] at hc h1
 exact⟨g,_,_,e,rfl,lt,hc,h1⟩
theorem outside1_any (x least:Int) (b:Nat) (w:World) (hb:w.cell? ⟨b,0,none⟩=some (.int .i64 least)) (h0:least≤x) (h1:x≤1099511627776) :
  Calls Tryz.prog 203 #[.int .i64 x, .pointer (some ⟨b,0,none⟩)] w fun e w'=>e = .returned (.bool false)∧w=w':=by
 have k0:¬ x<least:=by omega
 have k1:¬ (1099511627776:Int)<x:=by omega
 go_enter Tryz.func203,Tryz.ntmps203
 go_wp2_with fail
 exact bodyPost_ret (results_tmp rfl _ _ _) rfl ⟨rfl,rfl⟩
theorem system1_any (a:Option Addr) (c:Nat) (w:World) :
  Calls Tryz.prog 171 #[.slice a 2 c] w fun e w'=>e = .returned (.bool false)∧w=w':=by
 go_enter Tryz.func171,Tryz.ntmps171
 go_wp2_with fail
 exact bodyPost_ret (results_tmp rfl _ _ _) rfl ⟨rfl,rfl⟩
theorem index_out (v:Value) (l:List Int) (least:Int) (b:Nat) (w:World) (hV:I6 w v l) (hb:w.cell? ⟨b,0,none⟩=some (.int .i64 least)) (hl:∀ x∈l,least≤x∧x≤1099511627776) (hn:l.length≤1000000) :
  Calls Tryz.prog 228 #[v, .func (.func 203) #[] #[.pointer (some ⟨b,0,none⟩)]] w fun e w'=>e = .returned (.int .i64 (-1))∧w=w':=by
 obtain⟨A,cap,rfl,hR⟩:=hV
 have OU:=Lib.hid (fun x hx=>outside1_any x least b w hb (hl x hx).1 (hl x hx).2)
 have HR:=Lib.hid hR
 obtain⟨n,hln⟩:∃ n,n=l.length:=⟨_,rfl⟩
 rw[← hln] at hn ⊢
 have HN:=Lib.hid hln
 clear hl hR hb hln
 go_enter Tryz.func228,Tryz.ntmps228
 go_wp2_with fail
 go_loopw [8] (fun i wr=>∃ k:Nat,k≤n∧i = .int .i64 k∧wr=w) (fun i _=>n-(intOf i).toNat)
 case atStart=>exact⟨0,by omega,rfl,rfl⟩
 case round =>
  obtain⟨k,hk,rfl,rfl⟩:=hrel
  by_cases hlt:k<n
  ·have hkl:k<l.length:=by rw[← HN.out];exact hlt
   obtain⟨g,rfl, -,cA⟩:=rows_cell1 HR.out hkl
   have i1:(k:Int)<(n:Int):=by omega
   have ou:=OU.out (l[k]) (List.getElem_mem hkl)
   generalize l[k]=x at *
   clear hkl HR OU HN
   go_wp2_with fail
   go_at_call 203
   refine ou.mono ?_
   rintro e w' ⟨rfl,rfl⟩
   go_wp2_with fail
   go_roundw
   case rel=>exact⟨k+1,by omega,by simp,trivial⟩
   case measure=>simp[intOf];omega
  ·obtain rfl:k=n:=by omega
   clear HR OU HN
   go_wp2_with fail
   exact bodyPost_ret (results_tmp rfl _ _ _) rfl ⟨rfl,rfl⟩
theorem contains_out (v:Value) (l:List Int) (least:Int) (b:Nat) (w:World) (hV:I6 w v l) (hb:w.cell? ⟨b,0,none⟩=some (.int .i64 least)) (hl:∀ x∈l,least≤x∧x≤1099511627776) (hn:l.length≤1000000) :
  Calls Tryz.prog 202 #[v, .func (.func 203) #[] #[.pointer (some ⟨b,0,none⟩)]] w fun e w'=>e = .returned (.bool false)∧w=w':=by
 have IX:=Lib.hid (index_out v l least b w hV hb hl hn)
 clear hV hb hl
 go_enter Tryz.func202,Tryz.ntmps202
 go_wp2_with fail
 refine IX.out.mono ?_
 rintro e w' ⟨rfl,rfl⟩
 go_wp2_with fail
 exact bodyPost_ret (results_tmp rfl _ _ _) rfl ⟨rfl,rfl⟩
theorem outside_any (v:Value) (l:List Int) (least:Int) (w:World) (hV:I6 w v l) (hl:∀ x∈l,least≤x∧x≤1099511627776) (hn:l.length≤1000000) :
  Calls Tryz.prog 172 #[v, .int .i64 least] w fun e w'=>e = .returned (.bool false)∧Below w.heap.size w w':=by
 have F0:=(Fr.start w).alloc [.int .i64 least] 2
 have CO:=Lib.hid (contains_out v l least _ _ (hV.below F0.below) (F0.cell 0 0 rfl rfl) hl hn)
 have B:=Lib.hid F0.below
 obtain⟨A,cap,rfl, -⟩:=hV
 clear F0 hl
 go_enter Tryz.func172,Tryz.ntmps172
 go_wp2_with fail
 refine CO.out.mono ?_
 rintro e w' ⟨rfl,rfl⟩
 go_wp2_with fail
 exact bodyPost_ret (results_tmp rfl _ _ _) rfl ⟨rfl,B.out⟩
theorem index_sys (v:Value) (ts:List Int) (w:World) (hV:R2 w v ts) (hn:ts.length≤1000000) :
  Calls Tryz.prog 201 #[v, .func (.func 171) #[] #[]] w fun e w'=>e = .returned (.int .i64 (-1))∧w=w':=by
 have hV2:=hV
 obtain⟨A,cap,sls,rfl, -, -, -⟩:=hV2
 have HR:=Lib.hid hV
 obtain⟨n,hln⟩:∃ n,n=ts.length:=⟨_,rfl⟩
 rw[← hln] at hn HR ⊢
 have HN:=Lib.hid hln
 clear hV hln
 go_enter Tryz.func201,Tryz.ntmps201
 go_wp2_with fail
 go_loopw [8] (fun i wr=>∃ k:Nat,k≤n∧i = .int .i64 k∧wr=w) (fun i _=>n-(intOf i).toNat)
 case atStart=>exact⟨0,by omega,rfl,rfl⟩
 case round =>
  obtain⟨k,hk,rfl,rfl⟩:=hrel
  by_cases hlt:k<n
  ·have hkl:k<ts.length:=by rw[← HN.out];exact hlt
   obtain⟨g,a,c,rfl, -, -,cA, -⟩:=HR.out.cell hkl
   have i1:(k:Int)<(n:Int):=by omega
   clear hkl HR HN
   go_wp2_with fail
   go_at_call 171
   refine(system1_any a c _).mono ?_
   rintro e w' ⟨rfl,rfl⟩
   go_wp2_with fail
   go_roundw
   case rel=>exact⟨k+1,by omega,by simp,trivial⟩
   case measure=>simp[intOf];omega
  ·obtain rfl:k=n:=by omega
   clear HR HN
   go_wp2_with fail
   exact bodyPost_ret (results_tmp rfl _ _ _) rfl ⟨rfl,rfl⟩
theorem contains_sys (v:Value) (ts:List Int) (w:World) (hV:R2 w v ts) (hn:ts.length≤1000000) :
  Calls Tryz.prog 170 #[v, .func (.func 171) #[] #[]] w fun e w'=>e = .returned (.bool false)∧w=w':=by
 have IX:=Lib.hid (index_sys v ts w hV hn)
 clear hV
 go_enter Tryz.func170,Tryz.ntmps170
 go_wp2_with fail
 refine IX.out.mono ?_
 rintro e w' ⟨rfl,rfl⟩
 go_wp2_with fail
 exact bodyPost_ret (results_tmp rfl _ _ _) rfl ⟨rfl,rfl⟩
theorem system_any (V1 V2 V3:Value) (ts vs:List Int) (w:World) (h1:R2 w V1 ts) (h2:I6 w V2 vs) (h3:I6 w V3 (ts.map fun _=>1)) (hl:vs.length=ts.length) (h0:0<ts.length) (hn:ts.length≤200)
  (ht:∀ x∈ts, -1099511627776≤x∧x≤1099511627776) (hv:∀ x∈vs, -1099511627776≤x∧x≤1099511627776) :
  Calls Tryz.prog 121 #[V1,V2,V3] w fun e w'=>e = .returned (.int .i64 0)∧Below w.heap.size w w':=by
 have CS:=Lib.hid (contains_sys V1 ts w h1 (by omega))
 have O3:=Lib.hid (outside_any V3 _ 1 w h3 (fun x hx=>by obtain⟨_,_,rfl⟩:=List.mem_map.1 hx;omega) (by simp;omega))
 have O2:=Lib.hid (fun w' (hb:Below w.heap.size w w')=>outside_any V2 vs (-1099511627776) w' (h2.below hb) hv (by omega))
 have OR:=Lib.hid (fun w' (hb:Below w.heap.size w w') a c x (hx:-1099511627776≤x∧x≤1099511627776) (h:I6 w' (.slice a 2 c) [1,x])=>outside_any (.slice a 2 c) [1,x] (-1099511627776) w' h (fun y hy=>by
  simp only[List.mem_cons,List.not_mem_nil,or_false] at hy
  rcases hy with rfl|rfl
  ·omega
  ·exact hx) (by simp))
 have HR:=Lib.hid h1
 obtain⟨A1,p1,sls,rfl, -, -, -⟩:=h1
 obtain⟨A2,p2,rfl, -⟩:=h2
 obtain⟨A3,p3,rfl, -⟩:=h3
 obtain⟨g0,a0,c0,hA, -,l0,z0, -⟩:=HR.out.cell h0
 subst hA
 rw[List.length_map] at *
 rw[hl] at *
 have HT:=Lib.hid ht
 generalize hln:ts.length=n at *
 replace hln:=Lib.hid hln.symm
 have k1:¬ (200:Int)<(n:Int):=by omega
 have k2:¬ (n:Int)=0:=by omega
 have kb:((n:Int)==0)=false:=by simpa using k2
 have k3:(0:Int)<(n:Int):=by omega
 have Z0:=Lib.hid (fun w' (hb:Below w.heap.size w w')=>(hb.cell (p:=⟨g0,0,none⟩) l0).trans z0)
 clear ht hv hl h0
 go_enter Tryz.func121,Tryz.ntmps121
 go_wp2_with (first|(go_at_call 170;refine CS.out.mono ?_;rintro e w' ⟨rfl,rfl⟩))
 refine O3.out.mono ?_
 rintro e w1 ⟨rfl,hb⟩
 have B1:=Lib.hid hb
 clear hb z0
 go_wp2_with fail
 refine(O2.out _ B1.out).mono ?_
 rintro e w2 ⟨rfl,hb⟩
 have B2:=Lib.hid (below_then B1.out hb)
 clear hb
 go_wp2_with fail
 go_loopw [8,50] (fun _ i wr=>∃ k:Nat,k≤n∧i = .int .i64 k∧Below w.heap.size w wr) (fun _ i _=>n-(intOf i).toNat)
 case atStart=>exact⟨0,by omega,rfl,B2.out⟩
 case round =>
  obtain⟨k,hk,rfl,hB⟩:=hrel
  have HB:=Lib.hid hB
  clear hB
  by_cases hlt:k<n
  ·have hkl:k<ts.length:=by rw[← hln.out];exact hlt
   obtain⟨g,a,c,hA, -, -,cA,hI⟩:=(HR.out.below HB.out).cell hkl
   cases hA
   have z0:=Z0.out _ HB.out
   have i1:(k:Int)<(n:Int):=by omega
   have ou:=Lib.hid (OR.out _ HB.out a c _ (HT.out _ (List.getElem_mem hkl)) hI)
   clear hkl HR hI OR O2 O3 HT
   go_wp2_with fail
   refine ou.out.mono ?_
   rintro e w' ⟨rfl,hb⟩
   have HB':=Lib.hid (below_then HB.out hb)
   clear hb
   go_wp2_with fail
   go_roundw
   case rel=>exact⟨k+1,by omega,by simp,HB'.out⟩
   case measure=>simp[intOf];omega
  ·obtain rfl:k=n:=by omega
   clear HR OR O2 O3 HT
   go_wp2_with fail
   exact bodyPost_ret (results_tmp rfl _ _ _) rfl ⟨rfl,HB.out⟩
end Wd
end Go.Proofs.YtdnogmanbdgadaaGreatDoor
