/-
  Lemmas and walks, texts joined: QClone, QDM, QCmp.
-/
import Derived.Test.YtdnogmanbdgadaaGreatDoorTb19
import Derived.Test.YtdnogmanbdgadaaGreatDoorTb20
set_option linter.unusedSimpArgs false
set_option linter.unusedVariables false
set_option maxRecDepth 100000
set_option maxHeartbeats 40000000
namespace Go.Proofs.YtdnogmanbdgadaaGreatDoor
namespace Wd
open Go.RowKit Lw

theorem eql_nil_us (w:World) (a:Option Addr) (n c n' c':Nat):(binOp .eql 64 (.slice a n c) (.slice none n' c')).run Tryz.prog w = .ok (.bool a.isNone) w:=Lib.run_eql_slice_nil w _ _ a n c n' c' und_us
theorem clone_zero (a:Addr) (cap:Nat) (w:World) :
  Calls Tryz.prog 221 #[.slice (some a) 0 cap] w fun e w'=>∃ V,e = .returned V∧OwnL w' w.heap.size V []∧Below w.heap.size w w':=by
 obtain⟨i,hi,hzz⟩:=Option.map_eq_some_iff.1 info4
 simp only[Prod.mk.injEq] at hzz
 obtain⟨hz,hs,hb⟩:=hzz
 have q:=eql_nil_us
 have u:∀ w,Sem.run Tryz.prog (underlying 64) w = .ok (TypeDesc.slice 170) w:=run_underlying und_us
 go_enter Tryz.func221,Tryz.ntmps221
 go_wp2_with (at_builtin;refine wpList_append_own _ rfl _ _ 64 rfl w.heap.size 170 i (.int .u32 0) 1 4 und_us hi hz hs hb rfl (by decide) _ _ _ rfl (World.ownsRow_made w #[] 0 (Nat.le_refl _) (Nat.zero_le _) (by simp)) a 0 cap [] rfl ?qc1 ?qc2 ?qc3 ?qc4 ?qc5 ?qc6 ?_)
 case qc1=>rfl
 case qc2=>intro j u hj;simp at hj
 case qc3=>intro u hu;simp at hu
 case qc4=>unfold maxLen;omega
 case qc5=>omega
 case qc6=>simp
 intro v' w1 hown hgrow hnil
 go_wp2
 go_ret
 exact⟨v',rfl,show w1.ownsRow w.heap.size 170 1 v' 0 [] by simpa using hown,((Below.refl _ w).alloc (Nat.le_refl _) _).grown hgrow (by simp) (by intro k hk;simp[Value.ownBlock] at hk;omega)⟩
theorem clone_any (l:List Nat) (A:Option Addr) (n cap:Nat) (w:World) (hA:Lim w A n cap l) :
  Calls Tryz.prog 221 #[.slice A n cap] w fun e w'=>∃ V,e = .returned V∧OwnL w' w.heap.size V l∧Below w.heap.size w w':=by
 rcases Nat.eq_zero_or_pos n with h|h
 ·subst h
  have e:l = []:=List.length_eq_zero_iff.1 hA.len
  subst e
  cases A with
  | none =>
   refine(Tryz.slices_Clone_nil 0 cap w).mono ?_
   rintro e w' ⟨rfl,rfl⟩
   exact⟨_,rfl,World.ownsRow_nil _ _ _ _,Below.refl _ _⟩
  | some a=>exact clone_zero a cap w
 ·exact clone_walk l A n cap w hA h
theorem divide_lt0 (X Y:Nat) (A D:Option Addr) (na ca nb cb:Nat) (w:World) (hA:Lim w A na ca (canon X)) (hD:Lim w D nb cb (canon Y)) (h:X<Y) :
  Calls Tryz.prog 212 #[.slice A na ca, .slice D nb cb] w (DivPost w (X/Y) (X % Y)):=by
 have la:=hA.len
 have hc:=compare_walk X Y A D na ca nb cb w hA hD
 rw[cmp_lt h] at hc
 have cl:=fun w' (hb:Below w.heap.size w w')=>clone_any _ _ _ _ w' (hA.below hb)
 have hl:=lb_canon X
 have hs:=hA.sm
 have e0:X/Y=0:=Nat.div_eq_of_lt h
 have e1:X % Y=X:=Nat.mod_eq_of_lt h
 have Cl:=Lib.hid cl
 have HL:=Lib.hid hl
 clear cl hl hA hD
 rw[e0,e1]
 go_enter Tryz.func212,Tryz.ntmps212
 go_wp2_with (first|(go_at_call 222;refine hc.mono ?_;rintro e w1 ⟨rfl,hb⟩;have HB:=Lib.hid hb;clear hb)|(go_at_call 221;refine(Cl.out _ HB.out).mono ?_;rintro e w2 ⟨V,rfl,hO,hb⟩;have HB2:=Lib.hid (below_then HB.out hb);have hs1:=HB.out.size;have HO:=Lib.hid hO;clear hb hO))
 obtain⟨a,cap,rfl,hL,hf⟩:=own_lim HO.out HL.out (by omega)
 exact bodyPost_ret (results_tmp2 rfl _ _ _) rfl ⟨none,0,a,cap,by rw[canon_zero];rfl,by rw[canon_zero];exact Lim.nil _,hL,fun b off e=>by(cases e),fun b off e=>by have:=hf b off e;omega,HB2.out⟩
theorem divide_any (X Y:Nat) (A D:Option Addr) (na ca nb cb:Nat) (w:World) (hA:Lim w A na ca (canon X)) (hD:Lim w D nb cb (canon Y)) (hY:0<Y) (hn:na+10≤1000000) :
  Calls Tryz.prog 212 #[.slice A na ca, .slice D nb cb] w (DivPost w (X/Y) (X % Y)):=by
 rcases Nat.eq_zero_or_pos X with h|h
 ·subst h;exact divide_lt0 0 Y A D na ca nb cb w hA hD hY
 ·exact divide_walk X Y A D na ca nb cb w hA hD h hY hn
end Wd
namespace Wd
open Go.RowKit Lw Tw

abbrev DT (s:Nat) (sq sr:Bool) (vq vr:Value) (E:World→Prop) (w':World):Prop :=
 w'.cell? ⟨s+1+1,0,none⟩=some (.bool sq)∧w'.cell? ⟨s+1+1,1,none⟩=some vq∧w'.cell? ⟨s+1+1+1,0,none⟩=some (.bool sr)∧w'.cell? ⟨s+1+1+1,1,none⟩=some vr ∧
  w'.frozen? ⟨s+1+1,0,none⟩=false∧w'.frozen? ⟨s+1+1,1,none⟩=false∧w'.frozen? ⟨s+1+1+1,0,none⟩=false∧w'.frozen? ⟨s+1+1+1,1,none⟩=false∧E w'
theorem DT.st {s:Nat} {sq sr:Bool} {vq vr:Value} {E:World→Prop} {w':World} (h:DT s sq sr vq vr E w') {p:Addr} {v:Value} (hp:w'.cell? p=some v) (hE:E (w'.setCell p v)):DT s sq sr vq vr E (w'.setCell p v):=by
 obtain⟨h1,h2,h3,h4,h5,h6,h7,h8,_⟩:=h
 exact⟨(cell_same_set hp _).trans h1,(cell_same_set hp _).trans h2,(cell_same_set hp _).trans h3,(cell_same_set hp _).trans h4,by rw[World.frozen?_setCell];exact h5,by rw[World.frozen?_setCell];exact h6,by rw[World.frozen?_setCell];exact h7,by rw[World.frozen?_setCell];exact h8,hE⟩
section
variable {w w' : World} {sq sr : Bool} {vq vr : Value} {aq ar : Option Addr} {kq cq kr cr Q R : Nat}
theorem DT.store1 (h:DT w.heap.size sq sr vq vr (DE w aq ar kq cq kr cr Q R) w'):DT w.heap.size sq sr vq vr (DE w aq ar kq cq kr cr Q R) ((w'.setCell ⟨w.heap.size+1+1,0,none⟩ (.bool sq)).setCell ⟨w.heap.size+1+1,1,none⟩ vq):=by
 have h1:=h.st h.1 (h.2.2.2.2.2.2.2.2.set (b:=w.heap.size+1+1) (by omega) (by omega) 0 (.bool sq))
 exact h1.st h1.2.1 (h1.2.2.2.2.2.2.2.2.set (b:=w.heap.size+1+1) (by omega) (by omega) 1 vq)
theorem DT.store2 (h:DT w.heap.size sq sr vq vr (DE w aq ar kq cq kr cr Q R) w'):DT w.heap.size sq sr vq vr (DE w aq ar kq cq kr cr Q R) ((w'.setCell ⟨w.heap.size+1+1+1,0,none⟩ (.bool sr)).setCell ⟨w.heap.size+1+1+1,1,none⟩ vr):=by
 have h1:=h.st h.2.2.1 (h.2.2.2.2.2.2.2.2.set (b:=w.heap.size+1+1+1) (by omega) (by omega) 0 (.bool sr))
 exact h1.st h1.2.2.2.1 (h1.2.2.2.2.2.2.2.2.set (b:=w.heap.size+1+1+1) (by omega) (by omega) 1 vr)
theorem DT.dr (h:DT w.heap.size sq sr vq vr (DE w aq ar kq cq kr cr Q R) w'):DT w.heap.size sq sr vq vr (DE w aq ar kq cq kr cr Q R) w'.drew :=
 ⟨h.1,h.2.1,h.2.2.1,h.2.2.2.1,h.2.2.2.2.1,h.2.2.2.2.2.1,h.2.2.2.2.2.2.1,h.2.2.2.2.2.2.2.1,h.2.2.2.2.2.2.2.2.call (Below.refl _ _).drew⟩
theorem DT.undr (h:DT w.heap.size sq sr vq vr (DE w aq ar kq cq kr cr Q R) w'.drew):DT w.heap.size sq sr vq vr (DE w aq ar kq cq kr cr Q R) w' :=
 ⟨h.1,h.2.1,h.2.2.1,h.2.2.2.1,h.2.2.2.2.1,h.2.2.2.2.2.1,h.2.2.2.2.2.2.1,h.2.2.2.2.2.2.2.1,h.2.2.2.2.2.2.2.2.undrew⟩
theorem DT.store1d (h:DT w.heap.size sq sr vq vr (DE w aq ar kq cq kr cr Q R) w'.drew):DT w.heap.size sq sr vq vr (DE w aq ar kq cq kr cr Q R) ((w'.setCell ⟨w.heap.size+1+1,0,none⟩ (.bool sq)).setCell ⟨w.heap.size+1+1,1,none⟩ vq).drew:=h.undr.store1.dr
theorem DT.store2d (h:DT w.heap.size sq sr vq vr (DE w aq ar kq cq kr cr Q R) w'.drew):DT w.heap.size sq sr vq vr (DE w aq ar kq cq kr cr Q R) ((w'.setCell ⟨w.heap.size+1+1+1,0,none⟩ (.bool sr)).setCell ⟨w.heap.size+1+1+1,1,none⟩ vr).drew:=h.undr.store2.dr
theorem DE.postZ {w0 w:World} (h:DE w0 aq ar kq cq kr cr Q R w) {q r:Int} (hq:q.natAbs=Q) (hr:r.natAbs=R) (eq:decide (q<0)=sq) (er:decide (r<0)=sr):DMPost w0 q r (.returned (.tuple #[.agg #[.bool sq, .slice aq kq cq], .agg #[.bool sr, .slice ar kr cr], .int .i64 0])) w:=by
 subst hq hr eq er
 exact⟨_,_,rfl,⟨aq,kq,cq,rfl,h.lq,fun b off e=>by have:=h.fq b off e;omega⟩,⟨ar,kr,cr,rfl,h.lr,fun b off e=>by have:=h.fr b off e;omega⟩,h.below⟩
end
theorem fdm_pos (X Y:Nat):((X/Y:Nat):Int)=(X:Int)/(Y:Int)∧((X % Y:Nat):Int)=(X:Int) % (Y:Int):=⟨by simp,by simp⟩
theorem fdm_neg0 (X Y:Nat) (hY:0<Y) (h:X % Y=0):-((X/Y:Nat):Int) = -(X:Int)/(Y:Int)∧(0:Int) = -(X:Int) % (Y:Int):=by
 have e:=Nat.div_add_mod X Y
 rw[h,Nat.add_zero] at e
 have e2:-(X:Int)=(Y:Int) * -((X/Y:Nat):Int):=by
  rw[Int.mul_neg,← Int.natCast_mul,e]
 constructor
 ·rw[e2,Int.mul_ediv_cancel_left _ (by omega)]
 ·rw[e2,Int.mul_emod_right]
theorem fdm_neg (X Y:Nat) (hY:0<Y) (h:0<X % Y):-((X/Y+1:Nat):Int) = -(X:Int)/(Y:Int)∧((Y-X % Y:Nat):Int) = -(X:Int) % (Y:Int):=by
 have e:=Nat.div_add_mod X Y
 have l:=Nat.mod_lt X hY
 have e2:-(X:Int)=((Y-X % Y:Nat):Int)+(Y:Int) * -((X/Y+1:Nat):Int):=by
  have:(X:Int)=(Y:Int)*((X/Y:Nat):Int)+((X % Y:Nat):Int):=by rw[← Int.natCast_mul,← Int.natCast_add,e]
  rw[this,Int.mul_neg,Int.natCast_add,Int.mul_add]
  omega
 have e3:((Y-X % Y:Nat):Int)/(Y:Int)=0:=Int.ediv_eq_zero_of_lt (by omega) (by omega)
 have e4:((Y-X % Y:Nat):Int) % (Y:Int)=((Y-X % Y:Nat):Int):=Int.emod_eq_of_lt (by omega) (by omega)
 constructor
 ·rw[e2,Int.add_mul_ediv_left _ _ (by omega),e3];omega
 ·rw[e2,Int.add_mul_emod_self_left,e4]
theorem divmod_any (V1 V2:Value) (z1:Int) (Y:Nat) (w:World) (h1:Wide 0 w V1 z1) (h2:Wide 0 w V2 (Y:Int)) (hY:0<Y) (hx:(canon z1.natAbs).length≤4000) (hy:(canon Y).length≤4000) :
  Calls Tryz.prog 185 #[V1,V2] w (DMPost w (z1/(Y:Int)) (z1 % (Y:Int))):=by
 obtain⟨a,n,ca,rfl,hA, -⟩:=h1
 obtain⟨d,m,cd,rfl,hD, -⟩:=h2
 have la:=hA.len
 have ld:=hD.len
 have FA:=(((Fr.start w).alloc [.bool (decide (z1<0)), .slice a n ca] 66).alloc [.bool (decide ((Y:Int)<0)), .slice d m cd] 66).alloc [.bool false, .slice none 0 0] 66 |>.alloc [.bool false, .slice none 0 0] 66
 have HC:=two_row2 z1 (Y:Int) a d n ca m cd w _ FA.below hA hD (by omega) (by rw[← ld,Int.natAbs_natCast];omega)
 have F0:=FA.alloc [.bool (decide (z1<0)), .slice a n ca, .bool (decide ((Y:Int)<0)), .slice d m cd] 66
 rw[decide_eq_false (show ¬ (Y:Int)<0 by omega)] at *
 rw[Int.natAbs_natCast] at ld hD
 simp only[World.size_alloc] at HC F0
 replace HC:=Lib.hid (check_walk _ _ 2 2 _ HC (by omega))
 replace F0:=Lib.hid F0
 have mp:0<m:=by rw[← ld];exact(canon_lenpos Y).2 hY
 have k1:¬ (m:Int)=0:=by omega
 obtain⟨X,hX⟩:∃ X,X=z1.natAbs:=⟨_,rfl⟩
 rw[← hX] at hA hx la
 have HA:=Lib.hid hA
 have HD:=Lib.hid hD
 have lq0:(canon (X/Y)).length≤4000:=Nat.le_trans (canon_mono (Nat.div_le_self _ _)) hx
 have lr0:(canon (X % Y)).length≤4000:=Nat.le_trans (canon_mono (Nat.mod_le _ _)) hx
 have HX:=Lib.hid hX
 clear hA hD FA hX
 by_cases hs:z1<0
 ·have ez:z1 = -(X:Int):=by have:=HX.out;omega
  rw[decide_eq_true hs] at *
  rcases Nat.eq_zero_or_pos (X % Y) with hr|hr
  ·have k2:¬ (0:Int)<((canon (X % Y)).length:Int):=by rw[hr,canon_zero];decide
   have PP:=Lib.hid (show sgn true (X/Y)=z1/(Y:Int)∧((X % Y:Nat):Int)=z1 % (Y:Int) by rw[ez,hr];exact fdm_neg0 X Y hY hr)
   clear hr ez hs
   go_enter Tryz.func185,Tryz.ntmps185
   go_wp2_with fail
   refine HC.out.mono ?_
   rintro e w1 ⟨rfl,hb⟩
   have F1:=F0.out.call hb
   obtain⟨c0,c1⟩:=F1.c2 4 rfl
   obtain⟨d0,d1⟩:=F1.c2 3 rfl
   have dv:=divide_any X Y a d n ca m cd w1 (HA.out.below F1.below) (HD.out.below F1.below) hY (by omega)
   replace F1:=Lib.hid F1
   clear hb F0 HC
   go_wp2_with (go_at_call 212;refine dv.mono ?_;rintro e w2 ⟨aq,cq,ar,cr,rfl,l1,l2,f1,f2,hb⟩;have F2:=F1.out.call hb;have c0:=F2.cell 4 0 rfl rfl;obtain⟨d0,d1⟩:=F2.c2 3 rfl;have s1:=(F1.out.least 0 rfl).2;replace F2:=Lib.hid F2;have L1:=Lib.hid l1;have L2:=Lib.hid l2;replace f1:=Lib.hid f1;replace f2:=Lib.hid f2;clear l1 l2 hb)
   have mq:=made_walk true (canon (X/Y)) aq _ cq w2 L1.out (by rw[val_canon];omega)
   refine mq.mono ?_
   rintro e w3 ⟨rfl,hM,hb3⟩
   rw[show val (canon (X/Y))=X/Y from val_canon _] at hM ⊢
   have F3:=F2.out.call hb3
   have LY3:=Lib.hid (L2.out.below hb3)
   obtain⟨g0,g1⟩:=F3.c2 2 rfl
   obtain⟨h0,h1⟩:=F3.f2 2 rfl
   have e0:=F3.cell 3 0 rfl rfl
   replace F3:=Lib.hid F3
   have HM:=Lib.hid hM
   obtain⟨sq,hsq⟩:∃ sq,sq=decide (sgn true (X/Y)<0):=⟨_,rfl⟩
   obtain⟨kq,hkq⟩:∃ kq,kq=(canon (X/Y)).length:=⟨_,rfl⟩
   rw[← hkq] at HM ⊢
   rw[← hsq]
   have Hsq:=Lib.hid hsq
   clear mq hb3 hM hkq hsq c0 d0 d1 L1 L2 F2
   go_wp2_with fail
   have P3:=F3.out.put 2 rfl [.bool sq, .slice aq kq cq] rfl
   have HM3:=Lib.hid (HM.out.setCells (fun b off e=>by have:=f1.out b off e;omega) 0 [.bool sq, .slice aq kq cq]:Lim (w3.setCells (w.heap.size+1+1) 0 [.bool sq, .slice aq kq cq]) aq kq cq (canon (X/Y)))
   have LY4:=Lib.hid (LY3.out.setCells (fun b off e=>by have:=f2.out b off e;omega) 0 [.bool sq, .slice aq kq cq]:Lim (w3.setCells (w.heap.size+1+1) 0 [.bool sq, .slice aq kq cq]) ar _ cr (canon (X % Y)))
   replace P3:=Lib.hid P3
   have e3:(w3.setCell ⟨w.heap.size+1+1,0,none⟩ (.bool sq)).setCell ⟨w.heap.size+1+1,1,none⟩ (.slice aq kq cq)=w3.setCells (w.heap.size+1+1) 0 [.bool sq, .slice aq kq cq]:=rfl
   rw[e3]
   generalize w3.setCells (w.heap.size+1+1) 0 [.bool sq, .slice aq kq cq]=W3 at *
   clear e3 g0 g1 h0 h1 e0 F3 HM LY3
   have mr:=made_walk false (canon (X % Y)) ar _ cr W3 LY4.out (by rw[val_canon];omega)
   refine mr.mono ?_
   rintro e w4 ⟨rfl,hM,hb4⟩
   rw[show val (canon (X % Y))=X % Y from val_canon _] at hM ⊢
   have F4:=P3.out.call hb4
   obtain⟨q0,q1⟩:=F4.c2 2 rfl
   obtain⟨q2,q3⟩:=F4.f2 2 rfl
   obtain⟨g0,g1⟩:=F4.c2 1 rfl
   obtain⟨h0,h1⟩:=F4.f2 1 rfl
   replace F4:=Lib.hid F4
   have HQ4:=Lib.hid (HM3.out.below hb4)
   have HM:=Lib.hid hM
   obtain⟨kr,hkr⟩:∃ kr,kr=(canon (X % Y)).length:=⟨_,rfl⟩
   rw[← hkr] at HM ⊢
   rw[show decide (sgn false (X % Y)<0)=false from decide_eq_false (by show ¬ ((X % Y:Nat):Int)<0;omega)]
   clear mr hb4 hM hkr HM3 LY4 P3
   go_wp2_with fail
   have P4:=F4.out.put 1 rfl [.bool false, .slice ar kr cr] rfl
   have D0:DT w.heap.size sq false (.slice aq kq cq) (.slice ar kr cr) (DE w aq ar kq cq kr cr (X/Y) (X % Y)) (w4.setCells (w.heap.size+1+1+1) 0 [.bool false, .slice ar kr cr]) :=
    ⟨P4.cell 2 0 rfl rfl,P4.cell 2 1 rfl rfl,P4.cell 1 0 rfl rfl,P4.cell 1 1 rfl rfl,P4.fz 2 0 rfl rfl,P4.fz 2 1 rfl rfl,P4.fz 1 0 rfl rfl,P4.fz 1 1 rfl rfl,P4.below,HQ4.out.setCells (fun b off e=>by have:=f1.out b off e;omega) _ _,HM.out.setCells (fun b off e=>by have:=f2.out b off e;omega) _ _,fun b off e=>by have:=f1.out b off e;omega,fun b off e=>by have:=f2.out b off e;omega⟩
   have D0:=D0.dr
   have e4:(w4.setCell ⟨w.heap.size+1+1+1,0,none⟩ (.bool false)).setCell ⟨w.heap.size+1+1+1,1,none⟩ (.slice ar kr cr)=w4.setCells (w.heap.size+1+1+1) 0 [.bool false, .slice ar kr cr]:=rfl
   rw[e4]
   generalize w4.setCells (w.heap.size+1+1+1) 0 [.bool false, .slice ar kr cr]=W5 at *
   clear q0 q1 q2 q3 g0 g1 h0 h1 F4 HQ4 HM P4 e4
   have PL:=Lib.hid PP.out
   go_region_held3 (fun w'=>w'.cell? ⟨w.heap.size+1+1,0,none⟩=some (.bool sq)∧w'.cell? ⟨w.heap.size+1+1,1,none⟩=some (.slice aq kq cq)∧w'.cell? ⟨w.heap.size+1+1+1,0,none⟩=some (.bool false)∧w'.cell? ⟨w.heap.size+1+1+1,1,none⟩=some (.slice ar kr cr) ∧
    w'.frozen? ⟨w.heap.size+1+1,0,none⟩=false∧w'.frozen? ⟨w.heap.size+1+1,1,none⟩=false∧w'.frozen? ⟨w.heap.size+1+1+1,0,none⟩=false∧w'.frozen? ⟨w.heap.size+1+1+1,1,none⟩=false∧DE w aq ar kq cq kr cr (X/Y) (X % Y) w') (first|with_reducible exact D0|with_reducible exact DT.store1d (by assumption)|with_reducible exact DT.store2d (by assumption)|with_reducible assumption) (fail)
   all_goals
    obtain⟨g1,g2,g3,g4, -, -, -, -,g9⟩:=‹_∧_∧_∧_∧_∧_∧_∧_∧DE w aq ar kq cq kr cr (X/Y) (X % Y) _›
    have G:=Lib.hid (And.intro (range2 g1 g2) (And.intro (range2 g3 g4) (g9.postZ (sq:=sq) (sr:=false) (q:=z1/(Y:Int)) (r:=z1 % (Y:Int)) (by rw[← PL.out.1];exact sgn_abs _ _) (by rw[← PL.out.2];exact Int.natAbs_natCast _) (by rw[Hsq.out,← PL.out.1]) (by rw[← PL.out.2];exact decide_eq_false (by omega)))))
    clear g1 g2 g3 g4 g9 D0
    go_wp2_with fail
    refine bodyPost_ret (ret_cell2_tmp Tryz.results185 _ _ (w.heap.size+1+1) (w.heap.size+1+1+1) [.bool sq, .slice aq kq cq] [.bool false, .slice ar kr cr] _ rfl rfl G.out.1 G.out.2.1 Tryz.underlying66 rfl infoW infoW) rfl ?_
    exact G.out.2.2
  ·have k2:(0:Int)<((canon (X % Y)).length:Int):=by have:=(canon_lenpos (X % Y)).2 hr;omega
   have PP:=Lib.hid (show sgn true (X/Y+1)=z1/(Y:Int)∧((Y-X % Y:Nat):Int)=z1 % (Y:Int) by rw[ez];exact fdm_neg X Y hY hr)
   have hrl:X % Y≤Y:=Nat.le_of_lt (Nat.mod_lt _ hY)
   have v1:val (canon (X % Y))≤val (canon Y):=by rw[val_canon,val_canon];exact hrl
   have v2:(canon (X % Y)).length≤m:=by rw[← ld];exact canon_mono hrl
   have V1:=Lib.hid v1
   have V2:=Lib.hid v2
   clear hr ez hs v1 v2 hrl
   go_enter Tryz.func185,Tryz.ntmps185
   go_wp2_with fail
   refine HC.out.mono ?_
   rintro e w1 ⟨rfl,hb⟩
   have F1:=F0.out.call hb
   obtain⟨c0,c1⟩:=F1.c2 4 rfl
   obtain⟨d0,d1⟩:=F1.c2 3 rfl
   have dv:=divide_any X Y a d n ca m cd w1 (HA.out.below F1.below) (HD.out.below F1.below) hY (by omega)
   replace F1:=Lib.hid F1
   clear hb F0 HC
   go_wp2_with (go_at_call 212;refine dv.mono ?_;rintro e w2 ⟨aq,cq,ar,cr,rfl,l1,l2,f1,f2,hb⟩;have F2:=F1.out.call hb;have c0:=F2.cell 4 0 rfl rfl;obtain⟨d0,d1⟩:=F2.c2 3 rfl;have s1:=(F1.out.least 0 rfl).2;replace F2:=Lib.hid F2;have L1:=Lib.hid l1;have L2:=Lib.hid l2;replace f1:=Lib.hid f1;replace f2:=Lib.hid f2;clear l1 l2 hb)
   have hbA:=(Below.refl _ w2).alloc (Nat.le_refl _) (.cells #[.int .u32 1] 170)
   have ln:Lim (w2.alloc (.cells #[.int .u32 1] 170)) (some ⟨w2.heap.size,0,none⟩) 1 1 [1]:=Lim.new w2 [1] 170 1 (by intro x hx;simp at hx;omega) (by simp) (by simp)
   have pw:=plus_any (canon (X/Y)) [1] aq (some ⟨w2.heap.size,0,none⟩) _ cq 1 1 _ (L1.out.below hbA) ln (by omega)
   obtain⟨K,hK⟩:∃ K,K=max (canon (X/Y)).length 1+1:=⟨_,rfl⟩
   rw[← hK] at pw
   have hKK:K≤4002:=by omega
   refine pw.mono ?_
   rintro e w3 ⟨L,rfl,hL1,hL2,hL3,hL4,hb⟩
   have F3:=(F2.out.call hbA).call hb
   obtain⟨g,hg⟩:∃ g,g=(w2.alloc (.cells #[.int .u32 1] 170)).heap.size:=⟨_,rfl⟩
   have hgs:w.heap.size+4<g:=by
    have:=(F2.out.least 0 rfl).2
    rw[hg,World.size_alloc];omega
   rw[← hg] at hL4 ⊢
   have d0':=F3.cell 3 0 rfl rfl
   have d1':=F3.cell 3 1 rfl rfl
   have c0':=F3.cell 4 0 rfl rfl
   have vL:val L=X/Y+1:=by rw[hL3,val_canon];simp[val]
   have LQ:=Lib.hid (by have:=hL4.lim (cap:=K) hL2 (by omega) (by omega);rwa [hL1] at this:Lim w3 (some ⟨g,0,none⟩) K K L)
   have L2':=Lib.hid ((L2.out.below hbA).below hb)
   have hL1:=Lib.hid hL1
   have vL:=Lib.hid vL
   have hL2:=Lib.hid hL2
   replace F3:=Lib.hid F3
   clear pw hb hbA hL3 hL4 ln hK hg c0 d0 d1 F2 L1 L2
   go_wp2_with fail
   have mw:=minus_walk (canon Y) (canon (X % Y)) d ar m cd _ cr w3 (HD.out.below F3.out.below) L2'.out V2.out V1.out
   refine mw.mono ?_
   rintro e w4 ⟨M,rfl,hM1,hM2,hM3,hM4,hb⟩
   have F4:=F3.out.call hb
   obtain⟨gm,hg⟩:∃ g,g=w3.heap.size:=⟨_,rfl⟩
   have hgm:w.heap.size+4<gm:=by
    have:=(F3.out.least 0 rfl).2
    omega
   rw[← hg] at hM4 ⊢
   obtain⟨d0,d1⟩:=F4.c2 3 rfl
   have c0:=F4.cell 4 0 rfl rfl
   have vM:val M=Y-X % Y:=by rw[hM3,val_canon,val_canon]
   have LR:=Lib.hid (by have:=hM4.lim (cap:=m) hM2 (by omega) (by omega);rwa [hM1] at this:Lim w4 (some ⟨gm,0,none⟩) m m M)
   replace LQ:=Lib.hid (LQ.out.below hb)
   have lM:=Lib.hid (show (canon (val M)).length≤4096 by have:=canon_le M hM2;omega)
   have vM:=Lib.hid vM
   have fx:=Lib.hid (fun b off (e:(some ⟨g,0,none⟩:Option Addr)=some ⟨b,off,none⟩)=>(show w.heap.size+4<b by cases e;exact hgs))
   have fy:=Lib.hid (fun b off (e:(some ⟨gm,0,none⟩:Option Addr)=some ⟨b,off,none⟩)=>(show w.heap.size+4<b by cases e;exact hgm))
   have lL:=Lib.hid (show (canon (val L)).length≤4096 by have:=canon_le L hL2.out;have:=hL1.out;omega)
   replace F4:=Lib.hid F4
   clear mw hb hM1 hM2 hM3 hM4 hg hgs hgm d0' d1' c0' F3 L2' hKK f1 f2 s1 hL1 hL2
   go_wp2_with fail
   have mq:=made_walk true (L) (some ⟨g,0,none⟩) _ K w4 LQ.out (by exact lL.out)
   refine mq.mono ?_
   rintro e w3 ⟨rfl,hM,hb3⟩
   rw[show val (L)=X/Y+1 from vL.out] at hM ⊢
   have F3:=F4.out.call hb3
   have LY3:=Lib.hid (LR.out.below hb3)
   obtain⟨g0,g1⟩:=F3.c2 2 rfl
   obtain⟨h0,h1⟩:=F3.f2 2 rfl
   have e0:=F3.cell 3 0 rfl rfl
   replace F3:=Lib.hid F3
   have HM:=Lib.hid hM
   obtain⟨sq,hsq⟩:∃ sq,sq=decide (sgn true (X/Y+1)<0):=⟨_,rfl⟩
   obtain⟨kq,hkq⟩:∃ kq,kq=(canon (X/Y+1)).length:=⟨_,rfl⟩
   rw[← hkq] at HM ⊢
   rw[← hsq]
   have Hsq:=Lib.hid hsq
   clear mq hb3 hM hkq hsq c0 d0 d1 LQ LR F4
   go_wp2_with fail
   have P3:=F3.out.put 2 rfl [.bool sq, .slice (some ⟨g,0,none⟩) kq K] rfl
   have HM3:=Lib.hid (HM.out.setCells (fun b off e=>by have:=fx.out b off e;omega) 0 [.bool sq, .slice (some ⟨g,0,none⟩) kq K]:Lim (w3.setCells (w.heap.size+1+1) 0 [.bool sq, .slice (some ⟨g,0,none⟩) kq K]) (some ⟨g,0,none⟩) kq K (canon (X/Y+1)))
   have LY4:=Lib.hid (LY3.out.setCells (fun b off e=>by have:=fy.out b off e;omega) 0 [.bool sq, .slice (some ⟨g,0,none⟩) kq K]:Lim (w3.setCells (w.heap.size+1+1) 0 [.bool sq, .slice (some ⟨g,0,none⟩) kq K]) (some ⟨gm,0,none⟩) _ m (M))
   replace P3:=Lib.hid P3
   have e3:(w3.setCell ⟨w.heap.size+1+1,0,none⟩ (.bool sq)).setCell ⟨w.heap.size+1+1,1,none⟩ (.slice (some ⟨g,0,none⟩) kq K)=w3.setCells (w.heap.size+1+1) 0 [.bool sq, .slice (some ⟨g,0,none⟩) kq K]:=rfl
   rw[e3]
   generalize w3.setCells (w.heap.size+1+1) 0 [.bool sq, .slice (some ⟨g,0,none⟩) kq K]=W3 at *
   clear e3 g0 g1 h0 h1 e0 F3 HM LY3
   have mr:=made_walk false (M) (some ⟨gm,0,none⟩) _ m W3 LY4.out (by exact lM.out)
   refine mr.mono ?_
   rintro e w4 ⟨rfl,hM,hb4⟩
   rw[show val (M)=Y-X % Y from vM.out] at hM ⊢
   have F4:=P3.out.call hb4
   obtain⟨q0,q1⟩:=F4.c2 2 rfl
   obtain⟨q2,q3⟩:=F4.f2 2 rfl
   obtain⟨g0,g1⟩:=F4.c2 1 rfl
   obtain⟨h0,h1⟩:=F4.f2 1 rfl
   replace F4:=Lib.hid F4
   have HQ4:=Lib.hid (HM3.out.below hb4)
   have HM:=Lib.hid hM
   obtain⟨kr,hkr⟩:∃ kr,kr=(canon (Y-X % Y)).length:=⟨_,rfl⟩
   rw[← hkr] at HM ⊢
   rw[show decide (sgn false (Y-X % Y)<0)=false from decide_eq_false (by show ¬ ((Y-X % Y:Nat):Int)<0;omega)]
   clear mr hb4 hM hkr HM3 LY4 P3
   go_wp2_with fail
   have P4:=F4.out.put 1 rfl [.bool false, .slice (some ⟨gm,0,none⟩) kr m] rfl
   have D0:DT w.heap.size sq false (.slice (some ⟨g,0,none⟩) kq K) (.slice (some ⟨gm,0,none⟩) kr m) (DE w (some ⟨g,0,none⟩) (some ⟨gm,0,none⟩) kq K kr m (X/Y+1) (Y-X % Y)) (w4.setCells (w.heap.size+1+1+1) 0 [.bool false, .slice (some ⟨gm,0,none⟩) kr m]) :=
    ⟨P4.cell 2 0 rfl rfl,P4.cell 2 1 rfl rfl,P4.cell 1 0 rfl rfl,P4.cell 1 1 rfl rfl,P4.fz 2 0 rfl rfl,P4.fz 2 1 rfl rfl,P4.fz 1 0 rfl rfl,P4.fz 1 1 rfl rfl,P4.below,HQ4.out.setCells (fun b off e=>by have:=fx.out b off e;omega) _ _,HM.out.setCells (fun b off e=>by have:=fy.out b off e;omega) _ _,fun b off e=>by have:=fx.out b off e;omega,fun b off e=>by have:=fy.out b off e;omega⟩
   have D0:=D0.dr
   have e4:(w4.setCell ⟨w.heap.size+1+1+1,0,none⟩ (.bool false)).setCell ⟨w.heap.size+1+1+1,1,none⟩ (.slice (some ⟨gm,0,none⟩) kr m)=w4.setCells (w.heap.size+1+1+1) 0 [.bool false, .slice (some ⟨gm,0,none⟩) kr m]:=rfl
   rw[e4]
   generalize w4.setCells (w.heap.size+1+1+1) 0 [.bool false, .slice (some ⟨gm,0,none⟩) kr m]=W5 at *
   clear q0 q1 q2 q3 g0 g1 h0 h1 F4 HQ4 HM P4 e4
   have PL:=Lib.hid PP.out
   go_region_held3 (fun w'=>w'.cell? ⟨w.heap.size+1+1,0,none⟩=some (.bool sq)∧w'.cell? ⟨w.heap.size+1+1,1,none⟩=some (.slice (some ⟨g,0,none⟩) kq K)∧w'.cell? ⟨w.heap.size+1+1+1,0,none⟩=some (.bool false)∧w'.cell? ⟨w.heap.size+1+1+1,1,none⟩=some (.slice (some ⟨gm,0,none⟩) kr m) ∧
    w'.frozen? ⟨w.heap.size+1+1,0,none⟩=false∧w'.frozen? ⟨w.heap.size+1+1,1,none⟩=false∧w'.frozen? ⟨w.heap.size+1+1+1,0,none⟩=false∧w'.frozen? ⟨w.heap.size+1+1+1,1,none⟩=false∧DE w (some ⟨g,0,none⟩) (some ⟨gm,0,none⟩) kq K kr m (X/Y+1) (Y-X % Y) w') (first|with_reducible exact D0|with_reducible exact DT.store1d (by assumption)|with_reducible exact DT.store2d (by assumption)|with_reducible assumption) (fail)
   all_goals
    obtain⟨g1,g2,g3,g4, -, -, -, -,g9⟩:=‹_∧_∧_∧_∧_∧_∧_∧_∧DE w (some ⟨g,0,none⟩) (some ⟨gm,0,none⟩) kq K kr m (X/Y+1) (Y-X % Y) _›
    have G:=Lib.hid (And.intro (range2 g1 g2) (And.intro (range2 g3 g4) (g9.postZ (sq:=sq) (sr:=false) (q:=z1/(Y:Int)) (r:=z1 % (Y:Int)) (by rw[← PL.out.1];exact sgn_abs _ _) (by rw[← PL.out.2];exact Int.natAbs_natCast _) (by rw[Hsq.out,← PL.out.1]) (by rw[← PL.out.2];exact decide_eq_false (by omega)))))
    clear g1 g2 g3 g4 g9 D0
    go_wp2_with fail
    refine bodyPost_ret (ret_cell2_tmp Tryz.results185 _ _ (w.heap.size+1+1) (w.heap.size+1+1+1) [.bool sq, .slice (some ⟨g,0,none⟩) kq K] [.bool false, .slice (some ⟨gm,0,none⟩) kr m] _ rfl rfl G.out.1 G.out.2.1 Tryz.underlying66 rfl infoW infoW) rfl ?_
    exact G.out.2.2
 ·have ez:z1=(X:Int):=by have:=HX.out;omega
  rw[decide_eq_false hs] at *
  have PP:=Lib.hid (show sgn false (X/Y)=z1/(Y:Int)∧((X % Y:Nat):Int)=z1 % (Y:Int) by rw[ez];exact fdm_pos X Y)
  clear ez hs
  go_enter Tryz.func185,Tryz.ntmps185
  go_wp2_with fail
  refine HC.out.mono ?_
  rintro e w1 ⟨rfl,hb⟩
  have F1:=F0.out.call hb
  obtain⟨c0,c1⟩:=F1.c2 4 rfl
  obtain⟨d0,d1⟩:=F1.c2 3 rfl
  have dv:=divide_any X Y a d n ca m cd w1 (HA.out.below F1.below) (HD.out.below F1.below) hY (by omega)
  replace F1:=Lib.hid F1
  clear hb F0 HC
  go_wp2_with (go_at_call 212;refine dv.mono ?_;rintro e w2 ⟨aq,cq,ar,cr,rfl,l1,l2,f1,f2,hb⟩;have F2:=F1.out.call hb;have c0:=F2.cell 4 0 rfl rfl;obtain⟨d0,d1⟩:=F2.c2 3 rfl;have s1:=(F1.out.least 0 rfl).2;replace F2:=Lib.hid F2;have L1:=Lib.hid l1;have L2:=Lib.hid l2;replace f1:=Lib.hid f1;replace f2:=Lib.hid f2;clear l1 l2 hb)
  all_goals
   have mq:=made_walk false (canon (X/Y)) aq _ cq w2 L1.out (by rw[val_canon];omega)
   refine mq.mono ?_
   rintro e w3 ⟨rfl,hM,hb3⟩
   rw[show val (canon (X/Y))=X/Y from val_canon _] at hM ⊢
   have F3:=F2.out.call hb3
   have LY3:=Lib.hid (L2.out.below hb3)
   obtain⟨g0,g1⟩:=F3.c2 2 rfl
   obtain⟨h0,h1⟩:=F3.f2 2 rfl
   have e0:=F3.cell 3 0 rfl rfl
   replace F3:=Lib.hid F3
   have HM:=Lib.hid hM
   obtain⟨sq,hsq⟩:∃ sq,sq=decide (sgn false (X/Y)<0):=⟨_,rfl⟩
   obtain⟨kq,hkq⟩:∃ kq,kq=(canon (X/Y)).length:=⟨_,rfl⟩
   rw[← hkq] at HM ⊢
   rw[← hsq]
   have Hsq:=Lib.hid hsq
   clear mq hb3 hM hkq hsq c0 d0 d1 L1 L2 F2
   go_wp2_with fail
   have P3:=F3.out.put 2 rfl [.bool sq, .slice aq kq cq] rfl
   have HM3:=Lib.hid (HM.out.setCells (fun b off e=>by have:=f1.out b off e;omega) 0 [.bool sq, .slice aq kq cq]:Lim (w3.setCells (w.heap.size+1+1) 0 [.bool sq, .slice aq kq cq]) aq kq cq (canon (X/Y)))
   have LY4:=Lib.hid (LY3.out.setCells (fun b off e=>by have:=f2.out b off e;omega) 0 [.bool sq, .slice aq kq cq]:Lim (w3.setCells (w.heap.size+1+1) 0 [.bool sq, .slice aq kq cq]) ar _ cr (canon (X % Y)))
   replace P3:=Lib.hid P3
   have e3:(w3.setCell ⟨w.heap.size+1+1,0,none⟩ (.bool sq)).setCell ⟨w.heap.size+1+1,1,none⟩ (.slice aq kq cq)=w3.setCells (w.heap.size+1+1) 0 [.bool sq, .slice aq kq cq]:=rfl
   rw[e3]
   generalize w3.setCells (w.heap.size+1+1) 0 [.bool sq, .slice aq kq cq]=W3 at *
   clear e3 g0 g1 h0 h1 e0 F3 HM LY3
   have mr:=made_walk false (canon (X % Y)) ar _ cr W3 LY4.out (by rw[val_canon];omega)
   refine mr.mono ?_
   rintro e w4 ⟨rfl,hM,hb4⟩
   rw[show val (canon (X % Y))=X % Y from val_canon _] at hM ⊢
   have F4:=P3.out.call hb4
   obtain⟨q0,q1⟩:=F4.c2 2 rfl
   obtain⟨q2,q3⟩:=F4.f2 2 rfl
   obtain⟨g0,g1⟩:=F4.c2 1 rfl
   obtain⟨h0,h1⟩:=F4.f2 1 rfl
   replace F4:=Lib.hid F4
   have HQ4:=Lib.hid (HM3.out.below hb4)
   have HM:=Lib.hid hM
   obtain⟨kr,hkr⟩:∃ kr,kr=(canon (X % Y)).length:=⟨_,rfl⟩
   rw[← hkr] at HM ⊢
   rw[show decide (sgn false (X % Y)<0)=false from decide_eq_false (by show ¬ ((X % Y:Nat):Int)<0;omega)]
   clear mr hb4 hM hkr HM3 LY4 P3
   go_wp2_with fail
   have P4:=F4.out.put 1 rfl [.bool false, .slice ar kr cr] rfl
   have D0:DT w.heap.size sq false (.slice aq kq cq) (.slice ar kr cr) (DE w aq ar kq cq kr cr (X/Y) (X % Y)) (w4.setCells (w.heap.size+1+1+1) 0 [.bool false, .slice ar kr cr]) :=
    ⟨P4.cell 2 0 rfl rfl,P4.cell 2 1 rfl rfl,P4.cell 1 0 rfl rfl,P4.cell 1 1 rfl rfl,P4.fz 2 0 rfl rfl,P4.fz 2 1 rfl rfl,P4.fz 1 0 rfl rfl,P4.fz 1 1 rfl rfl,P4.below,HQ4.out.setCells (fun b off e=>by have:=f1.out b off e;omega) _ _,HM.out.setCells (fun b off e=>by have:=f2.out b off e;omega) _ _,fun b off e=>by have:=f1.out b off e;omega,fun b off e=>by have:=f2.out b off e;omega⟩
   have D0:=D0.dr
   have e4:(w4.setCell ⟨w.heap.size+1+1+1,0,none⟩ (.bool false)).setCell ⟨w.heap.size+1+1+1,1,none⟩ (.slice ar kr cr)=w4.setCells (w.heap.size+1+1+1) 0 [.bool false, .slice ar kr cr]:=rfl
   rw[e4]
   generalize w4.setCells (w.heap.size+1+1+1) 0 [.bool false, .slice ar kr cr]=W5 at *
   clear q0 q1 q2 q3 g0 g1 h0 h1 F4 HQ4 HM P4 e4
   have PL:=Lib.hid PP.out
   go_region_held3 (fun w'=>w'.cell? ⟨w.heap.size+1+1,0,none⟩=some (.bool sq)∧w'.cell? ⟨w.heap.size+1+1,1,none⟩=some (.slice aq kq cq)∧w'.cell? ⟨w.heap.size+1+1+1,0,none⟩=some (.bool false)∧w'.cell? ⟨w.heap.size+1+1+1,1,none⟩=some (.slice ar kr cr) ∧
    w'.frozen? ⟨w.heap.size+1+1,0,none⟩=false∧w'.frozen? ⟨w.heap.size+1+1,1,none⟩=false∧w'.frozen? ⟨w.heap.size+1+1+1,0,none⟩=false∧w'.frozen? ⟨w.heap.size+1+1+1,1,none⟩=false∧DE w aq ar kq cq kr cr (X/Y) (X % Y) w') (first|with_reducible exact D0|with_reducible exact DT.store1d (by assumption)|with_reducible exact DT.store2d (by assumption)|with_reducible assumption) (fail)
   all_goals
    obtain⟨g1,g2,g3,g4, -, -, -, -,g9⟩:=‹_∧_∧_∧_∧_∧_∧_∧_∧DE w aq ar kq cq kr cr (X/Y) (X % Y) _›
    have G:=Lib.hid (And.intro (range2 g1 g2) (And.intro (range2 g3 g4) (g9.postZ (sq:=sq) (sr:=false) (q:=z1/(Y:Int)) (r:=z1 % (Y:Int)) (by rw[← PL.out.1];exact sgn_abs _ _) (by rw[← PL.out.2];exact Int.natAbs_natCast _) (by rw[Hsq.out,← PL.out.1]) (by rw[← PL.out.2];exact decide_eq_false (by omega)))))
    clear g1 g2 g3 g4 g9 D0
    go_wp2_with fail
    refine bodyPost_ret (ret_cell2_tmp Tryz.results185 _ _ (w.heap.size+1+1) (w.heap.size+1+1+1) [.bool sq, .slice aq kq cq] [.bool false, .slice ar kr cr] _ rfl rfl G.out.1 G.out.2.1 Tryz.underlying66 rfl infoW infoW) rfl ?_
    exact G.out.2.2
end Wd
namespace Wd
open Go.RowKit Lw Tw

def cmpZ (x y:Int):Int:=if x<y then -1 else if y<x then 1 else 0
theorem cmpZ_nn {x y:Int} (hx:¬ x<0) (hy:¬ y<0):cmpN x.natAbs y.natAbs=cmpZ x y:=by
 unfold cmpN cmpZ
 have e1:(x.natAbs<y.natAbs)=(x<y):=by apply propext;omega
 have e2:(y.natAbs<x.natAbs)=(y<x):=by apply propext;omega
 simp only[e1,e2]
theorem cmpZ_mm {x y:Int} (hx:x<0) (hy:y<0):cmpN y.natAbs x.natAbs=cmpZ x y:=by
 unfold cmpN cmpZ
 have e1:(y.natAbs<x.natAbs)=(x<y):=by apply propext;omega
 have e2:(x.natAbs<y.natAbs)=(y<x):=by apply propext;omega
 simp only[e1,e2]
theorem cmpZ_mn {x y:Int} (hx:x<0) (hy:¬ y<0):cmpZ x y = -1:=by unfold cmpZ;rw[if_pos (by omega)]
theorem cmpZ_nm {x y:Int} (hx:¬ x<0) (hy:y<0):cmpZ x y=1:=by unfold cmpZ;rw[if_neg (by omega),if_pos (by omega)]
theorem to_any (V1 V2:Value) (z1 z2:Int) (w:World) (h1:Wide 0 w V1 z1) (h2:Wide 0 w V2 z2) :
  Calls Tryz.prog 215 #[V1,V2] w fun e w'=>e = .returned (.int .i64 (cmpZ z1 z2))∧Below w.heap.size w w':=by
 obtain⟨a,n,ca,rfl,hA, -⟩:=h1
 obtain⟨d,m,cd,rfl,hD, -⟩:=h2
 have F0:=(((Fr.start w).alloc [.bool (decide (z1<0)), .slice a n ca] 261).alloc [.bool (decide (z2<0)), .slice d m cd] 66)
 simp only[World.size_alloc] at F0
 have cAD:=Lib.hid (compare_walk _ _ a d n ca m cd _ (hA.below F0.below) (hD.below F0.below))
 have cDA:=Lib.hid (compare_walk _ _ d a m cd n ca _ (hD.below F0.below) (hA.below F0.below))
 have hB:=Lib.hid F0.below
 clear hA hD F0
 by_cases s1:z1<0 <;> by_cases s2:z2<0
 ·have e:=cmpZ_mm s1 s2
  rw[decide_eq_true s1,decide_eq_true s2] at *
  rw[e] at cDA
  generalize cmpZ z1 z2=r at *
  clear s1 s2 e
  go_enter Tryz.func215,Tryz.ntmps215
  go_wp2_with fail
  refine cDA.out.mono ?_
  rintro e w1 ⟨rfl,hb⟩
  have HB:=Lib.hid (below_then hB.out hb)
  clear hb
  go_wp2_with fail
  exact bodyPost_ret (results_tmp rfl _ _ _) rfl ⟨rfl,HB.out⟩
 ·have e:=cmpZ_mn s1 s2
  rw[decide_eq_true s1,decide_eq_false s2] at *
  rw[e]
  clear s1 s2 e cAD cDA
  go_enter Tryz.func215,Tryz.ntmps215
  go_wp2_with fail
  exact bodyPost_ret (results_tmp rfl _ _ _) rfl ⟨rfl,hB.out⟩
 ·have e:=cmpZ_nm s1 s2
  rw[decide_eq_false s1,decide_eq_true s2] at *
  rw[e]
  clear s1 s2 e cAD cDA
  go_enter Tryz.func215,Tryz.ntmps215
  go_wp2_with fail
  exact bodyPost_ret (results_tmp rfl _ _ _) rfl ⟨rfl,hB.out⟩
 ·have e:=cmpZ_nn s1 s2
  rw[decide_eq_false s1,decide_eq_false s2] at *
  rw[e] at cAD
  generalize cmpZ z1 z2=r at *
  clear s1 s2 e
  go_enter Tryz.func215,Tryz.ntmps215
  go_wp2_with fail
  refine cAD.out.mono ?_
  rintro e w1 ⟨rfl,hb⟩
  have HB:=Lib.hid (below_then hB.out hb)
  clear hb
  go_wp2_with fail
  exact bodyPost_ret (results_tmp rfl _ _ _) rfl ⟨rfl,HB.out⟩
theorem cmpW_any (V1 V2:Value) (z1 z2:Int) (w:World) (h1:Wide 0 w V1 z1) (h2:Wide 0 w V2 z2) (l1:(canon z1.natAbs).length≤4096) (l2:(canon z2.natAbs).length≤4096) :
  Calls Tryz.prog 186 #[V1,V2] w fun e w'=>e = .returned (.tuple #[.int .i64 (cmpZ z1 z2), .int .i64 0])∧Below w.heap.size w w':=by
 have TO:=Lib.hid (fun w' (hb:Below w.heap.size w w')=>to_any V1 V2 z1 z2 w' (h1.below hb) (h2.below hb))
 obtain⟨a,n,ca,rfl,hA, -⟩:=h1
 obtain⟨d,m,cd,rfl,hD, -⟩:=h2
 have la:=hA.len
 have ld:=hD.len
 have FA:=((Fr.start w).alloc [.bool (decide (z1<0)), .slice a n ca] 66).alloc [.bool (decide (z2<0)), .slice d m cd] 66
 have HC:=two_row2 z1 z2 a d n ca m cd w _ FA.below hA hD (by omega) (by omega)
 have F0:=FA.alloc [.bool (decide (z1<0)), .slice a n ca, .bool (decide (z2<0)), .slice d m cd] 66
 simp only[World.size_alloc] at HC F0
 replace HC:=Lib.hid (check_walk _ _ 2 2 _ HC (by omega))
 replace F0:=Lib.hid F0
 generalize cmpZ z1 z2=r at *
 generalize decide (z1<0)=n1 at *
 generalize decide (z2<0)=n2 at *
 clear hA hD FA la ld l1 l2
 go_enter Tryz.func186,Tryz.ntmps186
 go_wp2_with fail
 refine HC.out.mono ?_
 rintro e w1 ⟨rfl,hb⟩
 have F1:=F0.out.call hb
 obtain⟨c0,c1⟩:=F1.c2 2 rfl
 obtain⟨d0,d1⟩:=F1.c2 1 rfl
 replace F1:=Lib.hid F1
 clear hb F0 HC
 go_wp2_with fail
 refine(TO.out _ F1.out.below).mono ?_
 rintro e w2 ⟨rfl,hb⟩
 have HB:=Lib.hid (F1.out.call hb).below
 clear hb F1
 go_wp2_with fail
 exact bodyPost_ret (results_tmp2 rfl _ _ _) rfl ⟨rfl,HB.out⟩
end Wd
end Go.Proofs.YtdnogmanbdgadaaGreatDoor
