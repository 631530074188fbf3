/-
  Lemmas and walks, texts joined: QGcd, QRat, QFr1, QFr2, QRed.
-/
import Derived.Deep.RegionHeld3
import Derived.Test.YtdnogmanbdgadaaGreatDoorTb20
import Derived.Test.YtdnogmanbdgadaaGreatDoorTb21
set_option linter.unusedSimpArgs false
set_option linter.unusedVariables false
set_option maxRecDepth 100000
set_option maxHeartbeats 40000000
namespace Go.Proofs.YtdnogmanbdgadaaGreatDoor
namespace Wd
open Go.RowKit Lw

theorem gcd_any (V1 V2:Value) (z1 z2:Int) (w:World) (h1:Wide 0 w V1 z1) (h2:Wide 0 w V2 z2) (hx:(canon z1.natAbs).length≤4000) (hy:(canon z2.natAbs).length≤4000) :
  Calls Tryz.prog 192 #[V1,V2] w (NumPost w ((Nat.gcd z1.natAbs z2.natAbs:Nat):Int)):=by
 obtain⟨a,n,ca,rfl,hA, -⟩:=h1
 obtain⟨d,m,cd,rfl,hD, -⟩:=h2
 have la:=hA.len
 have ld:=hD.len
 have hS0:=BX.new w (decide (z1<0)) (decide (z2<0)) (.slice a n ca) (.slice d m cd)
 have HC:=Lib.hid (check_walk _ _ 2 2 _ (two_row z1 z2 a d n ca m cd w hA hD (by omega) (by omega)) (by omega))
 generalize z1.natAbs=X at *
 generalize z2.natAbs=Y at *
 have HS:=Lib.hid hS0.row
 have HA:=Lib.hid hA
 have HD:=Lib.hid hD
 clear hA hD hS0
 generalize decide (z1<0)=n1 at *
 generalize decide (z2<0)=n2 at *
 go_enter Tryz.func192,Tryz.ntmps192
 go_wp2_with fail
 refine HC.out.mono ?_
 rintro e w1 ⟨rfl,hb⟩
 have hS:=HS.out.call hb
 clear hb HS HC
 go_wp2_with fail
 have KA:=fun w' (h:BXS w n1 n2 (.slice a n ca) (.slice d m cd) w')=>HA.out.below h.2.2.2.2.2.2.2.2.below
 have KC:=fun w' w2 (h:BXS w n1 n2 (.slice a n ca) (.slice d m cd) w') (hb:Below w'.heap.size w' w2)=>h.2.2.2.2.2.2.2.2.call hb
 go_region_held3 (fun w'=>w'.cell? ⟨w.heap.size,0,none⟩=some (.bool n1)∧w'.cell? ⟨w.heap.size,1,none⟩=some (.slice a n ca)∧w'.cell? ⟨w.heap.size+1,0,none⟩=some (.bool n2)∧w'.cell? ⟨w.heap.size+1,1,none⟩=some (.slice d m cd)∧w'.cell? ⟨w.heap.size+2,0,none⟩=some (cellOf w' ⟨w.heap.size+2,0,none⟩)∧w'.cell? ⟨w.heap.size+2,1,none⟩=some (cellOf w' ⟨w.heap.size+2,1,none⟩)∧w'.frozen? ⟨w.heap.size+2,0,none⟩=false∧w'.frozen? ⟨w.heap.size+2,1,none⟩=false∧BX w n1 n2 (.slice a n ca) (.slice d m cd) w') (first|exact BX.s (BX.drew hS)|exact BX.s hS|exact BX.s hk|exact BX.s (by assumption)) (first|(go_at_call 221;refine(clone_any _ _ n ca _ (KA _ (by assumption))).mono ?_;rintro e w' ⟨V,rfl,hO,hb⟩;have hk:=KC _ _ (by assumption) hb;have HO:=Lib.hid hO;clear hb hO))
 obtain⟨vx,cx,rfl,lx, -⟩:=own_lim HO.out (lb_canon X) (by omega)
 rw[la]  at lx
 have st:∃ (P Q:Nat) (ax:Option Addr) (nx cx:Nat) (ay:Option Addr) (ny cy:Nat),Value.slice vx n _ = .slice ax nx cx∧Value.slice d m cd = .slice ay ny cy∧Lim w' ax nx cx (canon P)∧Lim w' ay ny cy (canon Q)∧Nat.gcd P Q=Nat.gcd X Y∧nx≤4000∧ny≤4000∧BX w n1 n2 (.slice a n ca) (.slice d m cd) w' :=
  ⟨X,Y,vx,n,_,d,m,cd,rfl,rfl,lx,HD.out.below hk.below,rfl,by omega,by omega,hk⟩
 rw[la]
 have ST:=Lib.hid st
 clear st lx HO KA KC hS hk
 go_wp2
 go_loopw [7,8] (fun x y wr=>∃ (P Q:Nat) (ax:Option Addr) (nx cx:Nat) (ay:Option Addr) (ny cy:Nat),x = .slice ax nx cx∧y = .slice ay ny cy∧Lim wr ax nx cx (canon P)∧Lim wr ay ny cy (canon Q)∧Nat.gcd P Q=Nat.gcd X Y∧nx≤4000∧ny≤4000∧BX w n1 n2 (.slice a n ca) (.slice d m cd) wr) (fun _ y wr=>rdv wr y)
 case atStart=>exact ST.out
 case round =>
  clear ST
  obtain⟨P,Q,ax,nx,cx,ay,ny,cy,rfl,rfl,hP,hQ,hg,bx,by',hB⟩:=hrel
  have lq:=hQ.len
  have lp:=hP.len
  have mq:=rdv_lim hQ
  rw[val_canon] at mq
  have HB:=Lib.hid hB
  have HQ:=Lib.hid hQ
  have HP:=Lib.hid hP
  clear hB hP hQ
  by_cases hq:0<ny
  ·have q0:0<Q:=(canon_lenpos Q).1 (by omega)
   have dv:=divide_any P Q ax ay nx cx ny cy wr HP.out HQ.out q0 (by omega)
   have k1:(0:Int)<(ny:Int):=by omega
   have hm:(canon (P % Q)).length≤4000:=Nat.le_trans (canon_mono (Nat.le_of_lt (Nat.mod_lt _ q0))) (by omega)
   have MQ:=Lib.hid mq
   clear mq
   go_wp2_with (go_at_call 212;refine dv.mono ?_;rintro e w3 ⟨aq,cq,ar,cr,rfl,l1,l2,f1,f2,hb⟩;have L2:=Lib.hid l2;have HBB:=Lib.hid hb;clear l1 l2 f1 f2 hb)
   go_roundw
   case rel=>exact⟨Q,P % Q,ay,ny,cy,ar,_,cr,rfl,rfl,HQ.out.below HBB.out,L2.out,by rw[gcd_step];exact hg,by',hm,HB.out.call HBB.out⟩
   case measure =>
    rw[MQ.out,rdv_lim L2.out,val_canon]
    exact Nat.mod_lt _ q0
  ·obtain rfl:ny=0:=by omega
   have q0:Q=0:=by
    rcases Nat.eq_zero_or_pos Q with g|g
    ·exact g
    ·have:=(canon_lenpos Q).2 g;omega
   subst q0
   rw[Nat.gcd_zero_right] at hg
   have cl:=Lib.hid (clone_any _ _ _ _ wr HP.out)
   go_wp2_with fail
   refine cl.out.mono ?_
   rintro e w3 ⟨V,rfl,hO,hb⟩
   have hB3:=HB.out.call hb
   have hs3:=HB.out.size
   obtain⟨az,cz,rfl,lz,fz⟩:=own_lim hO (lb_canon P) (by omega)
   rw[lp] at lz ⊢
   have mw:=made_walk false (canon P) az nx cz w3 lz (by rw[val_canon];omega)
   rw[val_canon,show sgn false P=(P:Int) from rfl] at mw
   have MW:=Lib.hid mw
   have HB3:=Lib.hid hB3
   clear mw hB3 hb hO lz mq
   go_wp2_with fail
   refine MW.out.mono ?_
   rintro e w4 ⟨rfl,hM,hb4⟩
   rw[val_canon,lp] at hM ⊢
   have hB4:=HB3.out.call hb4
   have F:=Lib.hid (num_fin2 (z:=(P:Int)) hB4 (by rw[Int.natAbs_natCast];exact hM) (fun b off e=>Nat.le_trans hs3 (fz b off e)))
   obtain⟨-, -, -, -,s5,s6,s7,s8, -⟩:=hB4.s
   have hPn:decide ((P:Int)<0)=false:=decide_eq_false (by omega)
   rw[hPn] at F ⊢
   clear hM hb4 hB4 hPn
   go_wp2_with fail
   have F2:=F.out.2
   rw[hg] at F2
   exact bodyPost_ret (ret_cell_tmp Tryz.results192 _ _ (w.heap.size+2) [.bool _, .slice _ _ _] _ rfl F.out.1 Tryz.underlying66 rfl infoW) rfl F2
end Wd
namespace Wd
open Go.RowKit Lw

theorem len_mulN (m n:Nat):(canon (m*n)).length≤(canon m).length+(canon n).length:=by
 have hm:=val_lt _ (lb_canon m)
 have hn:=val_lt _ (lb_canon n)
 rw[val_canon] at hm hn
 refine canon_len _ _ ?_
 rw[Nat.pow_add]
 exact Nat.mul_lt_mul'' hm hn
theorem len_addN {m n L:Nat} (hm:(canon m).length≤L) (hn:(canon n).length≤L):(canon (m+n)).length≤L+1:=by
 have a1:=val_lt _ (lb_canon m)
 have a2:=val_lt _ (lb_canon n)
 rw[val_canon] at a1 a2
 have b1:4294967296 ^ (canon m).length≤4294967296 ^ L:=Nat.pow_le_pow_right (by decide) hm
 have b2:4294967296 ^ (canon n).length≤4294967296 ^ L:=Nat.pow_le_pow_right (by decide) hn
 refine canon_len _ _ ?_
 rw[Nat.pow_succ]
 omega
theorem len_addZ {X Y:Int} {L:Nat} (hm:(canon X.natAbs).length≤L) (hn:(canon Y.natAbs).length≤L):(canon (X+Y).natAbs).length≤L+1 :=
 Nat.le_trans (canon_mono (Int.natAbs_add_le X Y)) (len_addN hm hn)
theorem len_mulZ (X Y:Int):(canon (X*Y).natAbs).length≤(canon X.natAbs).length+(canon Y.natAbs).length:=by
 rw[Int.natAbs_mul];exact len_mulN _ _
theorem len_i64 {t:Int} (h0:-9223372036854775808≤t) (h1:t<9223372036854775808):(canon t.natAbs).length≤2:=canon_len 2 _ (by omega)
structure FL (r:Rat) (L:Nat):Prop where
 n:(canon r.num.natAbs).length≤L
 d:(canon r.den).length≤L
theorem FL.mono {r:Rat} {L M:Nat} (h:FL r L) (hm:L≤M):FL r M:=⟨Nat.le_trans h.n hm,Nat.le_trans h.d hm⟩
theorem mk_num (X:Int) (Y:Nat) (hY:0<Y):(mkRat X Y).num=X/((Nat.gcd X.natAbs Y:Nat):Int):=by
 rw[Rat.num_mkRat,if_neg (by omega),Nat.gcd_comm]
theorem mk_den (X:Int) (Y:Nat) (hY:0<Y):(mkRat X Y).den=Y/Nat.gcd X.natAbs Y:=by
 rw[Rat.den_mkRat,if_neg (by omega),Nat.gcd_comm]
theorem natAbs_div_le (X:Int) (g:Nat) (h:g ∣ X.natAbs):(X/(g:Int)).natAbs=X.natAbs/g:=by
 have:(g:Int) ∣ X:=Int.ofNat_dvd_left.2 h
 rw[Int.natAbs_ediv_of_dvd this,Int.natAbs_natCast]
theorem FL.of {X:Int} {Y L:Nat} (hY:0<Y) (h1:(canon X.natAbs).length≤L) (h2:(canon Y).length≤L):FL (mkRat X Y) L:=by
 constructor
 ·rw[mk_num X Y hY,natAbs_div_le _ _ (Nat.gcd_dvd_left _ _)]
  exact Nat.le_trans (canon_mono (Nat.div_le_self _ _)) h1
 ·rw[mk_den X Y hY]
  exact Nat.le_trans (canon_mono (Nat.div_le_self _ _)) h2
theorem FL.mul {a b:Rat} {L M:Nat} (ha:FL a L) (hb:FL b M):FL (a*b) (L+M):=by
 rw[Rat.mul_def']
 refine FL.of (Nat.mul_pos a.den_pos b.den_pos) ?_ ?_
 ·exact Nat.le_trans (len_mulZ _ _) (Nat.add_le_add ha.n hb.n)
 ·exact Nat.le_trans (len_mulN _ _) (Nat.add_le_add ha.d hb.d)
theorem cross_len {a b:Rat} {L M:Nat} (ha:FL a L) (hb:FL b M):(canon (a.num*(b.den:Int)).natAbs).length≤L+M:=by
 have:=len_mulZ a.num (b.den:Int)
 rw[Int.natAbs_natCast] at this
 exact Nat.le_trans this (Nat.add_le_add ha.n hb.d)
theorem FL.add {a b:Rat} {L M:Nat} (ha:FL a L) (hb:FL b M):FL (a+b) (L+M+1):=by
 rw[Rat.add_def']
 refine FL.of (Nat.mul_pos a.den_pos b.den_pos) ?_ ?_
 ·exact len_addZ (cross_len ha hb) (by have:=cross_len hb ha;omega)
 ·exact Nat.le_trans (len_mulN _ _) (by have:=ha.d;have:=hb.d;omega)
theorem FL.sub {a b:Rat} {L M:Nat} (ha:FL a L) (hb:FL b M):FL (a-b) (L+M+1):=by
 rw[Rat.sub_def']
 refine FL.of (Nat.mul_pos a.den_pos b.den_pos) ?_ ?_
 ·rw[Int.sub_eq_add_neg]
  exact len_addZ (cross_len ha hb) (by rw[Int.natAbs_neg];have:=cross_len hb ha;omega)
 ·exact Nat.le_trans (len_mulN _ _) (by have:=ha.d;have:=hb.d;omega)
theorem FL.int {t:Int} {L:Nat} (h:(canon t.natAbs).length≤L) (h1:1≤L):FL (t:Rat) L :=
 ⟨by rw[Rat.num_intCast];exact h,by rw[Rat.den_intCast];exact Nat.le_trans (canon_len 1 1 (by decide)) h1⟩
theorem div_mk (a b:Rat) (hb:0<b.num):a/b=mkRat (a.num*(b.den:Int)) (a.den*b.num.toNat):=by
 have e:b.num=((b.num.toNat:Nat):Int):=by omega
 rw[Rat.div_def,Rat.mul_def',Rat.num_inv,Rat.den_inv,if_neg (by omega),Int.sign_eq_one_of_pos hb,Int.one_mul,show b.num.natAbs=b.num.toNat by omega]
theorem FL.div {a b:Rat} {L M:Nat} (ha:FL a L) (hb:FL b M) (h:0<b.num):FL (a/b) (L+M):=by
 rw[div_mk a b h]
 refine FL.of (Nat.mul_pos a.den_pos (by omega)) (cross_len ha hb) ?_
 have:=hb.n
 have:=ha.d
 exact Nat.le_trans (len_mulN _ _) (by rw[show b.num.toNat=b.num.natAbs by omega];omega)
def FracR (B:Nat) (w:World) (V:Value) (r:Rat):Prop:=∃ a k c a' k' c',V = .agg #[.bool (decide (r.num<0)), .slice a k c, .bool false, .slice a' k' c']∧Lim w a k c (canon r.num.natAbs)∧Lim w a' k' c' (canon r.den)∧(∀ b off,a=some ⟨b,off,none⟩→B≤b)∧(∀ b off,a'=some ⟨b,off,none⟩→B≤b)
theorem FracR.below {B:Nat} {w w':World} {V:Value} {r:Rat} (h:FracR B w V r) (hb:Below w.heap.size w w'):FracR B w' V r:=by
 obtain⟨a,k,c,a',k',c',e,h1,h2,h3,h4⟩:=h
 exact⟨a,k,c,a',k',c',e,h1.below hb,h2.below hb,h3,h4⟩
theorem FracR.mono {B B':Nat} {w:World} {V:Value} {r:Rat} (h:FracR B w V r) (hb:B'≤B):FracR B' w V r:=by
 obtain⟨a,k,c,a',k',c',e,h1,h2,h3,h4⟩:=h
 exact⟨a,k,c,a',k',c',e,h1,h2,fun b off e=>Nat.le_trans hb (h3 b off e),fun b off e=>Nat.le_trans hb (h4 b off e)⟩
end Wd
namespace Wd
open Go.RowKit Lw Tw

abbrev wdV (b:Bool) (a:Option Addr) (k c:Nat):List Value:=[.bool b, .slice a k c]
abbrev frV (b:Bool) (a:Option Addr) (k c:Nat) (b':Bool) (a':Option Addr) (k' c':Nat):List Value:=[.bool b, .slice a k c, .bool b', .slice a' k' c']
theorem zero_any (b:Bool) (a:Option Addr) (n cap:Nat) (w:World):Calls Tryz.prog 143 #[.agg #[.bool b, .slice a n cap]] w fun e w'=>e = .returned (.bool (decide (n=0)))∧Below w.heap.size w w':=by
 have hB:=(Below.refl w.heap.size w).alloc (Nat.le_refl _) (.cells #[.bool b, .slice a n cap] 66)
 have HB:=Lib.hid hB
 clear hB
 go_enter Tryz.func143,Tryz.ntmps143
 go_wp2_with fail
 refine bodyPost_ret (results_tmp rfl _ _ _) rfl ⟨?_,HB.out⟩
 by_cases h:n=0
 ·subst h;simp
 ·have h2:¬ (n:Int)=0:=by omega
  simp[h]
theorem one_any (w:World):Calls Tryz.prog 187 #[] w fun e w'=>∃ V,e = .returned V∧Wide w.heap.size w' V 1∧Below w.heap.size w w':=by
 have F0:=Lib.hid ((Fr.start w).alloc [.bool false, .slice none 0 0] 66)
 go_enter Tryz.func187,Tryz.ntmps187
 go_wp2_with fail
 refine(from_walk 1 _ (by decide) (by decide)).mono ?_
 rintro e w1 ⟨V,rfl,hV,hb⟩
 obtain⟨a,k,c,rfl,hL,hg⟩:=wideN_inv (p:=1) hV
 have F1:=F0.out.call hb
 obtain⟨g0,g1⟩:=F1.c2 0 rfl
 obtain⟨h0,h1⟩:=F1.f2 0 rfl
 have FF:=F1.put 0 rfl [.bool false, .slice a k c] rfl
 have lo:=F0.out.below.size
 have l2:=(F0.out.least 0 rfl).2
 have R:=Lib.hid (show Wide w.heap.size (w1.setCells w.heap.size 0 [.bool false, .slice a k c]) (.agg #[.bool false, .slice a k c]) 1 from wideN (p:=1) (hL.setCells (fun b off e=>by have:=hg b off e;omega) _ _) (fun b off e=>by have:=hg b off e;omega))
 have G:=Lib.hid (FF.get 0 rfl)
 have B:=Lib.hid FF.below
 clear hb hV hL hg F1 FF F0 lo l2
 go_wp2_with fail
 exact bodyPost_ret (ret_cell Tryz.results187 _ _ w.heap.size _ _ rfl G.out Tryz.underlying66 rfl infoW) rfl ⟨_,rfl,R.out,B.out⟩
theorem same_any (V1 V2:Value) (z1 z2:Int) (w:World) (h1:Wide 0 w V1 z1) (h2:Wide 0 w V2 z2) (l1:(canon z1.natAbs).length≤4096) (l2:(canon z2.natAbs).length≤4096) :
  Calls Tryz.prog 211 #[V1,V2] w fun e w'=>e = .returned (.bool (decide (z1=z2)))∧Below w.heap.size w w':=by
 have CM:=Lib.hid (fun w' (hb:Below w.heap.size w w')=>cmpW_any V1 V2 z1 z2 w' (h1.below hb) (h2.below hb) l1 l2)
 obtain⟨a,n,ca,rfl,hA, -⟩:=h1
 obtain⟨d,m,cd,rfl,hD, -⟩:=h2
 have F0:=((Fr.start w).alloc [.bool (decide (z1<0)), .slice a n ca] 66).alloc [.bool (decide (z2<0)), .slice d m cd] 66
 replace F0:=Lib.hid F0
 have hc:decide (cmpZ z1 z2=0)=decide (z1=z2):=by
  unfold cmpZ
  congr 1
  apply propext
  split
  ·constructor <;> intro h <;> omega
  ·split
   ·constructor <;> intro h <;> omega
   ·constructor <;> intro h <;> omega
 have HC:=Lib.hid hc
 generalize cmpZ z1 z2=r at *
 generalize decide (z1<0)=n1 at *
 generalize decide (z2<0)=n2 at *
 generalize decide (z1=z2)=q at *
 clear hA hD hc l1 l2
 go_enter Tryz.func211,Tryz.ntmps211
 go_wp2_with fail
 refine(CM.out _ F0.out.below).mono ?_
 rintro e w1 ⟨rfl,hb⟩
 have HB:=Lib.hid (F0.out.call hb).below
 clear hb F0
 go_wp2_with fail
 refine bodyPost_ret (results_tmp rfl _ _ _) rfl ⟨?_,HB.out⟩
 rw[← HC.out]
 simp
 rfl
theorem wideOf {B:Nat} {w:World} {z:Int} {a:Option Addr} {k c:Nat} (h:Lim w a k c (canon z.natAbs)) (hg:∀ b off,a=some ⟨b,off,none⟩→B≤b):Wide B w (.agg #[.bool (decide (z<0)), .slice a k c]) z:=⟨a,k,c,rfl,h,hg⟩
theorem wide0 {w:World} {z:Int} {a:Option Addr} {k c:Nat} (h:Lim w a k c (canon z.natAbs)):Wide 0 w (.agg #[.bool (decide (z<0)), .slice a k c]) z:=⟨a,k,c,rfl,h,fun _ _ _=>Nat.zero_le _⟩
theorem wide0N {w:World} {p:Nat} {a:Option Addr} {k c:Nat} (h:Lim w a k c (canon p)):Wide 0 w (.agg #[.bool false, .slice a k c]) (p:Int):=wideN h (fun _ _ _=>Nat.zero_le _)
theorem cross_any (r1 r2:Rat) (a1 b1 a2 b2:Option Addr) (i1 c1 j1 d1 i2 c2 j2 d2:Nat) (n2:Bool) (w:World) (hA:Lim w a1 i1 c1 (canon r1.num.natAbs)) (hB:Lim w b2 j2 d2 (canon r2.den)) (l1:i1≤2000) (l2:j2≤2000) :
  Calls Tryz.prog 147 #[.agg #[.bool (decide (r1.num<0)), .slice a1 i1 c1, .bool false, .slice b1 j1 d1], .agg #[.bool n2, .slice a2 i2 c2, .bool false, .slice b2 j2 d2]] w fun e w'=>∃ V,e = .returned V∧Wide w.heap.size w' V (r1.num*(r2.den:Int))∧Below w.heap.size w w':=by
 have e1:=hA.len
 have e2:=hB.len
 have MU:=Lib.hid (fun w' (hb:Below w.heap.size w w')=>mul_walk _ _ r1.num (r2.den:Int) w' (wide0 (hA.below hb)) (wide0N (hB.below hb)) (by rw[Int.natAbs_natCast];omega))
 have F0:=(((Fr.start w).alloc (frV (decide (r1.num<0)) a1 i1 c1 false b1 j1 d1) 68).alloc (frV n2 a2 i2 c2 false b2 j2 d2) 68).alloc [.bool false, .slice none 0 0] 66
 simp only[World.size_alloc] at F0
 replace F0:=Lib.hid F0
 generalize decide (r1.num<0)=n1 at *
 generalize r1.num*(r2.den:Int)=z at *
 clear hA hB e1 e2 l1 l2
 go_enter Tryz.func147,Tryz.ntmps147
 go_wp2_with fail
 refine(MU.out _ F0.out.below).mono ?_
 rintro e w1 ⟨V,rfl,⟨a,k,c,rfl,hL,hg⟩,hb⟩
 have F1:=Lib.hid (F0.out.call hb)
 have HL:=Lib.hid hL
 have HG:=Lib.hid hg
 have lo:=(F0.out.least 0 rfl).2
 have lw:=F0.out.below.size
 clear hb hL hg F0
 go_wp2_with fail
 refine(must_walk _ a k c _).mono ?_
 rintro e w2 ⟨rfl,hb⟩
 have F2:=F1.out.call hb
 obtain⟨g0,g1⟩:=F2.c2 0 rfl
 obtain⟨h0,h1⟩:=F2.f2 0 rfl
 have FF:=F2.put 0 rfl [.bool (decide (z<0)), .slice a k c] rfl
 have R:=Lib.hid (wideOf (B:=w.heap.size) ((HL.out.below hb).setCells (c:=w.heap.size+1+1) (fun b off e=>by have:=HG.out b off e;omega) 0 [.bool (decide (z<0)), .slice a k c]) (fun b off e=>by have:=HG.out b off e;omega))
 have G:=Lib.hid (FF.get 0 rfl)
 have B:=Lib.hid FF.below
 clear hb HL HG F1 F2 FF lo lw
 go_wp2_with fail
 exact bodyPost_ret (ret_cell Tryz.results147 _ _ (w.heap.size+1+1) _ _ rfl G.out Tryz.underlying66 rfl infoW) rfl ⟨_,rfl,R.out,B.out⟩
end Wd
namespace Wd
open Go.RowKit Lw Tw

theorem same_one (V1 V2:Value) (w:World) (h1:Wide 0 w V1 1) (h2:Wide 0 w V2 1) :
  Calls Tryz.prog 211 #[V1,V2] w fun e w'=>e = .returned (.bool true)∧Below w.heap.size w w':=by
 have h:(canon (1:Int).natAbs).length≤4096:=Nat.le_trans (canon_len 1 1 (by decide)) (by decide)
 have:=same_any V1 V2 1 1 w h1 h2 h h
 simpa using this
theorem fcheck_any (V:Value) (r:Rat) (w:World) (h:FracR 0 w V r) (lp:FL r 2000) :
  Calls Tryz.prog 184 #[V] w fun e w'=>e = .returned (.int .i64 0)∧Below w.heap.size w w':=by
 obtain⟨a,k,c,a',k',c',rfl,hA,hA', -, -⟩:=h
 have lk':0<k':=by rw[← hA'.len];exact(canon_lenpos _).2 r.den_pos
 have GG:=Lib.hid (fun w' (hb:Below w.heap.size w w')=>gcd_any _ _ r.num (r.den:Int) w' (wide0 (hA.below hb)) (wide0N (hA'.below hb)) (Nat.le_trans lp.n (by decide)) (by rw[Int.natAbs_natCast];exact Nat.le_trans lp.d (by decide)))
 rw[Int.natAbs_natCast,show Nat.gcd r.num.natAbs r.den=1 from r.reduced] at GG
 have F0:=Lib.hid ((Fr.start w).alloc (frV (decide (r.num<0)) a k c false a' k' c') 68)
 generalize decide (r.num<0)=n at *
 clear hA hA' lp
 go_enter Tryz.func184,Tryz.ntmps184
 go_wp2_with fail
 refine(GG.out _ F0.out.below).mono ?_
 rintro e w1 ⟨V,rfl,hV,hb⟩
 obtain⟨ag,kg,cg,rfl,hL, -⟩:=wideN_inv (p:=1) hV
 have F1:=((F0.out.call hb).alloc [.bool false, .slice ag kg cg] 66).two
 have HL:=hL.below ((Below.refl _ w1).alloc (Nat.le_refl _) (.cells #[.bool false, .slice ag kg cg] 66))
 clear hb hV hL F0 GG
 go_wp2_with fail
 generalize hW:w1.alloc (.cells #[.bool false, .slice ag kg cg] 66)=W at *
 have KS:=fun w' (h:Fr2 w [(w1.heap.size,[.bool false, .slice ag kg cg]),(w.heap.size,frV n a k c false a' k' c')] W w')=>(show w'.cell? ⟨w1.heap.size,0,none⟩=some (.bool false)∧w'.cell? ⟨w1.heap.size,1,none⟩=some (.slice ag kg cg)∧w'.cell? ⟨w.heap.size,2,none⟩=some (.bool false)∧w'.cell? ⟨w.heap.size,3,none⟩=some (.slice a' k' c')∧Fr2 w [(w1.heap.size,[.bool false, .slice ag kg cg]),(w.heap.size,frV n a k c false a' k' c')] W w' from⟨h.1.cell 0 0 rfl rfl,h.1.cell 0 1 rfl rfl,h.1.cell 1 2 rfl rfl,h.1.cell 1 3 rfl rfl,h⟩)
 have KL:=fun w' (h:w'.cell? ⟨w1.heap.size,0,none⟩=some (.bool false)∧w'.cell? ⟨w1.heap.size,1,none⟩=some (.slice ag kg cg)∧w'.cell? ⟨w.heap.size,2,none⟩=some (.bool false)∧w'.cell? ⟨w.heap.size,3,none⟩=some (.slice a' k' c')∧Fr2 w [(w1.heap.size,[.bool false, .slice ag kg cg]),(w.heap.size,frV n a k c false a' k' c')] W w')=>HL.below h.2.2.2.2.2
 have KC:=fun w' w2 (h:w'.cell? ⟨w1.heap.size,0,none⟩=some (.bool false)∧w'.cell? ⟨w1.heap.size,1,none⟩=some (.slice ag kg cg)∧w'.cell? ⟨w.heap.size,2,none⟩=some (.bool false)∧w'.cell? ⟨w.heap.size,3,none⟩=some (.slice a' k' c')∧Fr2 w [(w1.heap.size,[.bool false, .slice ag kg cg]),(w.heap.size,frV n a k c false a' k' c')] W w') (hb:Below w'.heap.size w' w2)=>h.2.2.2.2.call hb
 clear HL
 go_region_held3 (fun w'=>w'.cell? ⟨w1.heap.size,0,none⟩=some (.bool false)∧w'.cell? ⟨w1.heap.size,1,none⟩=some (.slice ag kg cg)∧w'.cell? ⟨w.heap.size,2,none⟩=some (.bool false)∧w'.cell? ⟨w.heap.size,3,none⟩=some (.slice a' k' c')∧Fr2 w [(w1.heap.size,[.bool false, .slice ag kg cg]),(w.heap.size,frV n a k c false a' k' c')] W w') (first|exact KS _ F1.drew|exact KS _ F1|exact KS _ hk3|exact KS _ hk2|exact KS _ hk1|exact KS _ (by assumption)) (first|(go_at_call 143;refine(zero_walk _ _ _ _ _ lk').mono ?_;rintro e w' ⟨rfl,hb⟩;have hk1:=KC _ _ (by assumption) hb;clear hb)|(go_at_call 187;refine(one_any _).mono ?_;rintro e w' ⟨V,rfl,hV,hb⟩;obtain⟨az,kz,cz,rfl,hM, -⟩:=wideN_inv (p:=1) hV;have hk2:=Fr2.call hk1 hb;have HM:=Lib.hid hM;clear hV hb hM)|(go_at_call 211;refine(same_one _ _ _ (wide0N (p:=1) (KL _ (by assumption))) (wide0N (p:=1) HM.out)).mono ?_;rintro e w' ⟨rfl,hb⟩;have hk3:=Fr2.call hk2 hb;clear hb))
 have R:=Lib.hid hk3.1.below
 clear KS KL KC hk1 hk2 hk3 HM F1 hW
 go_wp2_with fail
 exact bodyPost_ret (results_tmp rfl _ _ _) rfl ⟨rfl,R.out⟩
end Wd
namespace Wd
open Go.RowKit Lw Tw

theorem reduce_any (V1 V2:Value) (X:Int) (Y:Nat) (w:World) (h1:Wide 0 w V1 X) (h2:Wide 0 w V2 (Y:Int)) (hY:0<Y) (hx:(canon X.natAbs).length≤4000) (hy:(canon Y).length≤4000) :
  Calls Tryz.prog 144 #[V1,V2] w fun e w'=>∃ V,e = .returned V∧FracR w.heap.size w' V (mkRat X Y)∧Below w.heap.size w w':=by
 have g0:0<Nat.gcd X.natAbs Y:=Nat.gcd_pos_of_pos_right _ hY
 have gl:(canon (Nat.gcd X.natAbs Y)).length≤4000:=Nat.le_trans (canon_mono (Nat.gcd_le_right _ hY)) hy
 have GW:=Lib.hid (fun w' (hb:Below w.heap.size w w')=>gcd_any V1 V2 X (Y:Int) w' (h1.below hb) (h2.below hb) hx (by rw[Int.natAbs_natCast];exact hy))
 have D1:=Lib.hid (fun w' (hb:Below w.heap.size w w') V (hV:Wide 0 w' V ((Nat.gcd X.natAbs Y:Nat):Int))=>divmod_any V1 V X (Nat.gcd X.natAbs Y) w' (h1.below hb) hV g0 hx gl)
 have D2:=Lib.hid (fun w' (hb:Below w.heap.size w w') V (hV:Wide 0 w' V ((Nat.gcd X.natAbs Y:Nat):Int))=>divmod_any V2 V (Y:Int) (Nat.gcd X.natAbs Y) w' (h2.below hb) hV g0 (by rw[Int.natAbs_natCast];exact hy) gl)
 rw[Int.natAbs_natCast] at GW
 have N1:=Lib.hid (mk_num X Y hY)
 have N2:=Lib.hid (mk_den X Y hY)
 obtain⟨a,n,ca,rfl,hA, -⟩:=h1
 obtain⟨d,m,cd,rfl,hD, -⟩:=wideN_inv h2
 have F0:=(((Fr.start w).alloc [.bool (decide (X<0)), .slice a n ca] 66).alloc [.bool false, .slice d m cd] 66).alloc [.bool false, .slice none 0 0, .bool false, .slice none 0 0] 68
 simp only[World.size_alloc] at F0
 replace F0:=Lib.hid F0
 generalize decide (X<0)=sx at *
 generalize Nat.gcd X.natAbs Y=g at *
 clear hA hD g0 gl hx hy
 go_enter Tryz.func144,Tryz.ntmps144
 go_wp2_with fail
 refine(GW.out _ F0.out.below).mono ?_
 rintro e w1 ⟨V,rfl,hV,hb⟩
 obtain⟨ag,kg,cg,rfl,hL, -⟩:=wideN_inv hV
 have F1:=Lib.hid (F0.out.call hb)
 have HL:=Lib.hid hL
 clear hV hb hL F0 GW
 go_wp2_with fail
 refine(must_walk _ ag kg cg _).mono ?_
 rintro e w2 ⟨rfl,hb⟩
 have hba:=(Below.refl _ w2).alloc (Nat.le_refl _) (.cells #[.bool false, .slice ag kg cg] 66)
 have F2:=(F1.out.call hb).alloc [.bool false, .slice ag kg cg] 66
 have HL2:=Lib.hid ((HL.out.below hb).below hba)
 obtain⟨c0,c1⟩:=F2.c2 3 rfl
 obtain⟨d0,d1⟩:=F2.c2 2 rfl
 replace F2:=Lib.hid F2
 clear hb hba F1 HL
 go_wp2_with fail
 refine(D1.out _ F2.out.below _ (wide0N HL2.out)).mono ?_
 rintro e w3 ⟨U1,U2,rfl,hV1,hV2,hb⟩
 obtain⟨aq,kq,cq,rfl,lq,fq⟩:=hV1
 obtain⟨ar,kr,cr,rfl, -, -⟩:=hV2
 have s2:=F2.out.below.size
 have s3:=(F2.out.least 0 rfl).2
 have FB:=(F2.out.call hb).alloc [.bool (decide (X/(g:Int)<0)), .slice aq kq cq] 66
 have F3:=FB.alloc [.bool (decide (X % (g:Int)<0)), .slice ar kr cr] 66
 have hba:=((Below.refl _ w3).alloc (Nat.le_refl _) (.cells #[.bool (decide (X/(g:Int)<0)), .slice aq kq cq] 66)).alloc (by simp) (.cells #[.bool (decide (X % (g:Int)<0)), .slice ar kr cr] 66)
 simp only[World.size_alloc] at F3
 have HQ:=Lib.hid (lq.below hba)
 have HL3:=Lib.hid ((HL2.out.below hb).below hba)
 have HFQ:=Lib.hid (fun b off e=>(show w.heap.size+3≤b by have:=fq b off e;have:=(F2.out.least 0 rfl).1;have z:=(F2.out.least 1 rfl).2;omega))
 clear c0 c1 d0 d1
 obtain⟨d0,d1⟩:=F3.c2 4 rfl
 obtain⟨e0,e1⟩:=F3.c2 2 rfl
 replace F3:=Lib.hid F3
 clear lq fq hb hba FB F2 HL2 s2 s3 D1
 go_wp2_with fail
 refine(D2.out _ F3.out.below _ (wide0N HL3.out)).mono ?_
 rintro e w4 ⟨U1,U2,rfl,hV1,hV2,hb⟩
 rw[show (Y:Int)/(g:Int)=((Y/g:Nat):Int) by simp] at hV1
 obtain⟨ay,ky,cy,rfl,ly,fy⟩:=wideN_inv hV1
 obtain⟨ar2,kr2,cr2,rfl, -, -⟩:=hV2
 have FB:=(F3.out.call hb).alloc [.bool false, .slice ay ky cy] 66
 have F4:=FB.alloc [.bool (decide ((Y:Int) % (g:Int)<0)), .slice ar2 kr2 cr2] 66
 have hba:=((Below.refl _ w4).alloc (Nat.le_refl _) (.cells #[.bool false, .slice ay ky cy] 66)).alloc (by simp) (.cells #[.bool (decide ((Y:Int) % (g:Int)<0)), .slice ar2 kr2 cr2] 66)
 simp only[World.size_alloc] at F4
 have HY:=Lib.hid (ly.below hba)
 have HQ4:=Lib.hid ((HQ.out.below hb).below hba)
 have HFY:=Lib.hid (fun b off e=>(show w.heap.size+3≤b by have:=fy b off e;have:=(F3.out.least 2 rfl).1;have z:=(F3.out.least 3 rfl).2;omega))
 clear d0 d1 e0 e1
 obtain⟨u0,u1,u2,u3⟩:=F4.c4 5 rfl
 obtain⟨v0,v1,v2,v3⟩:=F4.f4 5 rfl
 obtain⟨p0,p1⟩:=F4.c2 3 rfl
 obtain⟨q0,q1⟩:=F4.c2 1 rfl
 have PP:=F4.put 5 rfl (frV (decide (X/(g:Int)<0)) aq kq cq false ay ky cy) rfl
 have R:=Lib.hid (show FracR w.heap.size (((w4.alloc (.cells #[.bool false, .slice ay ky cy] 66)).alloc (.cells #[.bool (decide ((Y:Int) % (g:Int)<0)), .slice ar2 kr2 cr2] 66)).setCells (w.heap.size+1+1) 0 (frV (decide (X/(g:Int)<0)) aq kq cq false ay ky cy)) (.agg (frV (decide (X/(g:Int)<0)) aq kq cq false ay ky cy).toArray) (mkRat X Y) from
  ⟨aq,kq,cq,ay,ky,cy,by rw[N1.out],by rw[N1.out];exact HQ4.out.setCells (fun b off e=>by have:=HFQ.out b off e;omega) _ _,by rw[N2.out];exact HY.out.setCells (fun b off e=>by have:=HFY.out b off e;omega) _ _,fun b off e=>by have:=HFQ.out b off e;omega,fun b off e=>by have:=HFY.out b off e;omega⟩)
 have G:=Lib.hid (PP.get 5 rfl)
 have B:=Lib.hid PP.below
 clear ly fy hb hba FB F3 HQ HL3 D2 PP F4 HQ4 HY HFQ HFY N1 N2 hV1
 go_wp2_with fail
 exact bodyPost_ret (ret_cell Tryz.results144 _ _ (w.heap.size+1+1) _ _ rfl G.out Tryz.underlying68 rfl infoF) rfl ⟨_,rfl,R.out,B.out⟩
def RPost (w:World) (r:Rat) (e:Ending) (w':World):Prop:=∃ V,e = .returned (.tuple #[V, .int .i64 0])∧FracR w.heap.size w' V r∧Below w.heap.size w w'
theorem make_any (V1 V2:Value) (X:Int) (Y:Nat) (w:World) (h1:Wide 0 w V1 X) (h2:Wide 0 w V2 (Y:Int)) (hY:0<Y) (hx:(canon X.natAbs).length≤4000) (hy:(canon Y).length≤4000) :
  Calls Tryz.prog 88 #[V1,V2] w (RPost w (mkRat X Y)):=by
 have C1:=Lib.hid (fun w' (hb:Below w.heap.size w w')=>check1_walk V1 X w' (h1.below hb) (by omega))
 have C2:=Lib.hid (fun w' (hb:Below w.heap.size w w')=>check1_walk V2 (Y:Int) w' (h2.below hb) (by rw[Int.natAbs_natCast];omega))
 have RD:=Lib.hid (fun w' (hb:Below w.heap.size w w')=>reduce_any V1 V2 X Y w' (h1.below hb) (h2.below hb) hY hx hy)
 obtain⟨a,n,ca,rfl,hA, -⟩:=h1
 obtain⟨d,m,cd,rfl,hD, -⟩:=wideN_inv h2
 have mp:0<m:=by rw[← hD.len];exact(canon_lenpos Y).2 hY
 have F0:=((((Fr.start w).alloc [.bool (decide (X<0)), .slice a n ca] 66).alloc [.bool false, .slice d m cd] 66).alloc [.bool false, .slice none 0 0, .bool false, .slice none 0 0] 68).alloc [.int .i64 0] 35
 simp only[World.size_alloc] at F0
 replace F0:=Lib.hid F0
 generalize decide (X<0)=sx at *
 generalize mkRat X Y=r at *
 clear hA hD hx hy
 go_enter_defers Tryz.func88,Tryz.ntmps88
 go_wp2_with fail
 refine(C1.out _ F0.out.below).mono ?_
 rintro e w1 ⟨rfl,hb⟩
 have F1:=F0.out.call hb
 obtain⟨d0,d1⟩:=F1.c2 2 rfl
 replace F1:=Lib.hid F1
 clear hb F0 C1
 go_wp2_with (go_at_call 141;refine(want_walk _).mono ?_;rintro e w' ⟨rfl,rfl⟩)
 refine(C2.out _ F1.out.below).mono ?_
 rintro e w2 ⟨rfl,hb⟩
 have F2:=F1.out.call hb
 clear d0 d1
 obtain⟨d0,d1⟩:=F2.c2 2 rfl
 replace F2:=Lib.hid F2
 clear hb F1 C2
 go_wp2_with (first|(go_at_call 141;refine(want_walk _).mono ?_;rintro e w' ⟨rfl,rfl⟩)|(go_at_call 143;refine(zero_walk _ _ _ _ _ mp).mono ?_;rintro e w3 ⟨rfl,hb⟩;have F3:=F2.out.call hb;obtain⟨x0,x1⟩:=F3.c2 3 rfl;obtain⟨y0,y1⟩:=F3.c2 2 rfl;replace F3:=Lib.hid F3;clear hb d0 d1))
 refine(RD.out _ F3.out.below).mono ?_
 rintro e w4 ⟨V,rfl,⟨aq,kq,cq,aq2,kq2,cq2,rfl,l1,l2,f1,f2⟩,hb⟩
 have F4:=F3.out.call hb
 have lo:=(F3.out.least 0 rfl).2
 obtain⟨u0,u1,u2,u3⟩:=F4.c4 1 rfl
 obtain⟨v0,v1,v2,v3⟩:=F4.f4 1 rfl
 have ce:=F4.cell 0 0 rfl rfl
 have fe:=F4.fz 0 0 rfl rfl
 have PA:=F4.put 1 rfl (frV (decide (r.num<0)) aq kq cq false aq2 kq2 cq2) rfl
 have PP:=PA.put 0 rfl [.int .i64 0] rfl
 have R:=Lib.hid (show FracR w.heap.size ((w4.setCells (w.heap.size+1+1) 0 (frV (decide (r.num<0)) aq kq cq false aq2 kq2 cq2)).setCells (w.heap.size+1+1+1) 0 [.int .i64 0]) (.agg (frV (decide (r.num<0)) aq kq cq false aq2 kq2 cq2).toArray) r from
  ⟨aq,kq,cq,aq2,kq2,cq2,rfl,(l1.setCells (fun b off e=>by have:=f1 b off e;omega) _ _).setCells (fun b off e=>by have:=f1 b off e;omega) _ _,(l2.setCells (fun b off e=>by have:=f2 b off e;omega) _ _).setCells (fun b off e=>by have:=f2 b off e;omega) _ _,fun b off e=>by have:=f1 b off e;omega,fun b off e=>by have:=f2 b off e;omega⟩)
 have G:=Lib.hid (PP.get 1 rfl)
 have hc:=PP.cell 0 0 rfl rfl
 have B:=Lib.hid PP.below
 clear hb l1 l2 f1 f2 F3 F4 PA PP lo RD x0 x1 y0 y1
 have hc2:(((((w4.setCell ⟨w.heap.size+1+1,0,none⟩ (.bool (decide (r.num<0)))).setCell ⟨w.heap.size+1+1,1,none⟩ (.slice aq kq cq)).setCell ⟨w.heap.size+1+1,2,none⟩ (.bool false)).setCell ⟨w.heap.size+1+1,3,none⟩ (.slice aq2 kq2 cq2)).setCell ⟨w.heap.size+1+1+1,0,none⟩ (.int .i64 0)).cell? ⟨w.heap.size+1+1+1,0,none⟩=some (.int .i64 0):=hc
 clear hc
 replace hc2:=Lib.hid hc2
 go_wp2_with fail
 refine leaves_cons (f:=140) (args:=#[.pointer (some ⟨w.heap.size+1+1+1,0,none⟩)]) (by simp) (by simp[go_sem]) ?_
 refine(catch_idle ⟨w.heap.size+1+1+1,0,none⟩ _).mono ?_
 rintro e u' w'' ⟨rfl,rfl,rfl⟩
 refine⟨_,ret_cells Tryz.results88 _ _ (w.heap.size+1+1) (w.heap.size+1+1+1) _ (.int .i64 0) _ rfl rfl G.out Tryz.underlying68 rfl infoF (by simp[go_sem,hc2.out]),_,rfl,R.out,B.out⟩
theorem of_any (s t:Int) (w:World) (s0:-9223372036854775808≤s) (s1:s<9223372036854775808) (t0:0<t) (t1:t<9223372036854775808) :
  Calls Tryz.prog 79 #[.int .i64 s, .int .i64 t] w (RPost w (mkRat s t.toNat)):=by
 obtain⟨T,rfl⟩:∃ T:Nat,t=(T:Int):=⟨t.toNat,by omega⟩
 rw[Int.toNat_natCast]
 have MK:=Lib.hid (fun V1 V2 w' (h1:Wide 0 w' V1 s) (h2:Wide 0 w' V2 (T:Int))=>make_any V1 V2 s T w' h1 h2 (by omega) (Nat.le_trans (len_i64 s0 s1) (by decide)) (Nat.le_trans (canon_len 2 T (by omega)) (by decide)))
 have F0:=Lib.hid ((Fr.start w).alloc [.bool false, .slice none 0 0, .bool false, .slice none 0 0] 68)
 generalize mkRat s T=r at *
 have B2:=Lib.hid (And.intro (show -9223372036854775808≤(T:Int) by omega) t1)
 generalize (T:Int)=t at *
 go_enter Tryz.func79,Tryz.ntmps79
 go_wp2_with fail
 refine(from_walk s _ s0 s1).mono ?_
 rintro e w1 ⟨V1,rfl,hV,hb⟩
 have F1:=Lib.hid (F0.out.call hb)
 have H1:=Lib.hid (hV.mono (Nat.zero_le _))
 clear hV hb F0
 go_wp2_with fail
 refine(from_walk t _ B2.out.1 B2.out.2).mono ?_
 rintro e w2 ⟨V2,rfl,hV,hb⟩
 have F2:=Lib.hid (F1.out.call hb)
 have H2:=Lib.hid (hV.mono (Nat.zero_le _))
 replace H1:=Lib.hid (H1.out.below hb)
 clear hV hb F1
 go_wp2_with fail
 refine(MK.out _ _ _ H1.out H2.out).mono ?_
 rintro e w3 ⟨V,rfl,⟨aq,kq,cq,aq2,kq2,cq2,rfl,l1,l2,f1,f2⟩,hb⟩
 have F3:=F2.out.call hb
 have lo:=(F2.out.least 0 rfl).2
 obtain⟨u0,u1,u2,u3⟩:=F3.c4 0 rfl
 obtain⟨v0,v1,v2,v3⟩:=F3.f4 0 rfl
 have PP:=F3.put 0 rfl (frV (decide (r.num<0)) aq kq cq false aq2 kq2 cq2) rfl
 have R:=Lib.hid (show FracR w.heap.size (w3.setCells w.heap.size 0 (frV (decide (r.num<0)) aq kq cq false aq2 kq2 cq2)) (.agg (frV (decide (r.num<0)) aq kq cq false aq2 kq2 cq2).toArray) r from
  ⟨aq,kq,cq,aq2,kq2,cq2,rfl,l1.setCells (fun b off e=>by have:=f1 b off e;omega) _ _,l2.setCells (fun b off e=>by have:=f2 b off e;omega) _ _,fun b off e=>by have:=f1 b off e;omega,fun b off e=>by have:=f2 b off e;omega⟩)
 have G:=Lib.hid (PP.get 0 rfl)
 have B:=Lib.hid PP.below
 clear hb l1 l2 f1 f2 F2 F3 PP lo MK H1 H2
 go_wp2_with fail
 exact bodyPost_ret (ret_cell_tmp Tryz.results79 _ _ w.heap.size _ _ rfl G.out Tryz.underlying68 rfl infoF) rfl ⟨_,rfl,R.out,B.out⟩
end Wd
end Go.Proofs.YtdnogmanbdgadaaGreatDoor
