/-
  Lemmas and walks, texts joined: QOps, QLs.
-/
import Derived.Test.YtdnogmanbdgadaaGreatDoorTb23
import Derived.Test.YtdnogmanbdgadaaGreatDoorTb22
set_option linter.unusedSimpArgs false
set_option linter.unusedVariables false
set_option maxRecDepth 100000
set_option maxHeartbeats 40000000
namespace Go.Proofs.YtdnogmanbdgadaaGreatDoor
namespace Wd
open Go.RowKit Lw Tw

theorem both_mul (V1 V2:Value) (r1 r2:Rat) (N:Int) (D:Nat) (w:World) (h1:FracR 0 w V1 r1) (h2:FracR 0 w V2 r2) (l1:FL r1 900) (l2:FL r2 900) (hD:0<D) (hx:(canon N.natAbs).length≤4000) (hy:(canon D).length≤4000)
  (hf:∀ w',Below w.heap.size w w'→Calls Tryz.prog 127 #[V1,V2] w' (CPost w' N (D:Int))) :
  Calls Tryz.prog 126 #[V1,V2, .func (.func 127) #[] #[]] w (RPost w (mkRat N D)):=by
 have C1:=Lib.hid (fun w' (hb:Below w.heap.size w w')=>fcheck_any V1 r1 w' (h1.below hb) (l1.mono (by decide)))
 have C2:=Lib.hid (fun w' (hb:Below w.heap.size w w')=>fcheck_any V2 r2 w' (h2.below hb) (l2.mono (by decide)))
 have RD:=Lib.hid (fun V1 V2 w' (g1:Wide 0 w' V1 N) (g2:Wide 0 w' V2 (D:Int))=>reduce_any V1 V2 N D w' g1 g2 hD hx hy)
 obtain⟨a1,i1,c1,b1,j1,d1,rfl, -, -, -, -⟩:=h1
 obtain⟨a2,i2,c2,b2,j2,d2,rfl, -, -, -, -⟩:=h2
 have F0:=((((Fr.start w).alloc (frV (decide (r1.num<0)) a1 i1 c1 false b1 j1 d1) 68).alloc (frV (decide (r2.num<0)) a2 i2 c2 false b2 j2 d2) 68).alloc [.bool false, .slice none 0 0, .bool false, .slice none 0 0] 68).alloc [.int .i64 0] 35
 simp only[World.size_alloc] at F0
 replace F0:=Lib.hid F0
 replace hf:=Lib.hid hf
 generalize decide (r1.num<0)=n1 at *
 generalize decide (r2.num<0)=n2 at *
 generalize mkRat N D=r at *
 clear l1 l2 hx hy hD
 go_enter_defers Tryz.func126,Tryz.ntmps126
 go_wp2_with fail
 refine(C1.out _ F0.out.below).mono ?_
 rintro e w1 ⟨rfl,hb⟩
 have F1:=F0.out.call hb
 obtain⟨d0,d1,d2,d3⟩:=F1.c4 2 rfl
 replace F1:=Lib.hid F1
 clear hb F0 C1
 go_wp2_with (go_at_call 141;refine(want_walk _).mono ?_;rintro e w' ⟨rfl,rfl⟩)
 refine(C2.out _ F1.out.below).mono ?_
 rintro e w2 ⟨rfl,hb⟩
 have F2:=F1.out.call hb
 clear d0 d1 d2 d3
 obtain⟨c0,c1,c2,c3⟩:=F2.c4 3 rfl
 obtain⟨d0,d1,d2,d3⟩:=F2.c4 2 rfl
 replace F2:=Lib.hid F2
 clear hb F1 C2
 go_wp2_with (go_at_call 141;refine(want_walk _).mono ?_;rintro e w' ⟨rfl,rfl⟩)
 go_at_call 127
 refine(hf.out _ F2.out.below).mono ?_
 rintro e w3 ⟨U1,U2,rfl,hU1,hU2,hb⟩
 have F3:=Lib.hid (F2.out.call hb)
 have HU1:=Lib.hid hU1
 have HU2:=Lib.hid hU2
 clear hb hU1 hU2 F2 c0 c1 c2 c3 d0 d1 d2 d3
 go_wp2_with fail
 refine(RD.out _ _ _ HU1.out HU2.out).mono ?_
 rintro e w4 ⟨V,rfl,⟨aq,kq,cq,aq2,kq2,cq2,rfl,l1,l2,f1,f2⟩,hb⟩
 have F4:=F3.out.call hb
 have lo:=(F3.out.least 0 rfl).2
 obtain⟨u0,u1,u2,u3⟩:=F4.c4 1 rfl
 obtain⟨v0,v1,v2,v3⟩:=F4.f4 1 rfl
 have ce:=F4.cell 0 0 rfl rfl
 have fe:=F4.fz 0 0 rfl rfl
 have PA:=F4.put 1 rfl (frV (decide (r.num<0)) aq kq cq false aq2 kq2 cq2) rfl
 have PP:=PA.put 0 rfl [.int .i64 0] rfl
 have R:=Lib.hid (show FracR w.heap.size ((w4.setCells (w.heap.size+1+1) 0 (frV (decide (r.num<0)) aq kq cq false aq2 kq2 cq2)).setCells (w.heap.size+1+1+1) 0 [.int .i64 0]) (.agg (frV (decide (r.num<0)) aq kq cq false aq2 kq2 cq2).toArray) r from
  ⟨aq,kq,cq,aq2,kq2,cq2,rfl,(l1.setCells (fun b off e=>by have:=f1 b off e;omega) _ _).setCells (fun b off e=>by have:=f1 b off e;omega) _ _,(l2.setCells (fun b off e=>by have:=f2 b off e;omega) _ _).setCells (fun b off e=>by have:=f2 b off e;omega) _ _,fun b off e=>by have:=f1 b off e;omega,fun b off e=>by have:=f2 b off e;omega⟩)
 have G:=Lib.hid (PP.get 1 rfl)
 have hc:=PP.cell 0 0 rfl rfl
 have B:=Lib.hid PP.below
 clear hb l1 l2 f1 f2 F3 F4 PA PP lo RD HU1 HU2 hf
 have hc2:(((((w4.setCell ⟨w.heap.size+1+1,0,none⟩ (.bool (decide (r.num<0)))).setCell ⟨w.heap.size+1+1,1,none⟩ (.slice aq kq cq)).setCell ⟨w.heap.size+1+1,2,none⟩ (.bool false)).setCell ⟨w.heap.size+1+1,3,none⟩ (.slice aq2 kq2 cq2)).setCell ⟨w.heap.size+1+1+1,0,none⟩ (.int .i64 0)).cell? ⟨w.heap.size+1+1+1,0,none⟩=some (.int .i64 0):=hc
 clear hc
 replace hc2:=Lib.hid hc2
 go_wp2_with fail
 refine leaves_cons (f:=140) (args:=#[.pointer (some ⟨w.heap.size+1+1+1,0,none⟩)]) (by simp) (by simp[go_sem]) ?_
 refine(catch_idle ⟨w.heap.size+1+1+1,0,none⟩ _).mono ?_
 rintro e u' w'' ⟨rfl,rfl,rfl⟩
 refine⟨_,ret_cells Tryz.results126 _ _ (w.heap.size+1+1) (w.heap.size+1+1+1) _ (.int .i64 0) _ rfl rfl G.out Tryz.underlying68 rfl infoF (by simp[go_sem,hc2.out]),_,rfl,R.out,B.out⟩
theorem fmul_any (V1 V2:Value) (r1 r2:Rat) (w:World) (h1:FracR 0 w V1 r1) (h2:FracR 0 w V2 r2) (l1:FL r1 900) (l2:FL r2 900) :
  Calls Tryz.prog 80 #[V1,V2] w (RPost w (r1*r2)):=by
 have hx:(canon (r1.num*r2.num).natAbs).length≤4000:=by
  have:=len_mulZ r1.num r2.num;have:=l1.n;have:=l2.n;omega
 have hy:(canon (r1.den*r2.den)).length≤4000:=by
  have:=len_mulN r1.den r2.den;have:=l1.d;have:=l2.d;omega
 have BO:=Lib.hid (fun w' (hb:Below w.heap.size w w')=>both_mul V1 V2 r1 r2 (r1.num*r2.num) (r1.den*r2.den) w' (h1.below hb) (h2.below hb) l1 l2 (Nat.mul_pos r1.den_pos r2.den_pos) hx hy (fun w'' hb'=>by
  have:=clo_mul V1 V2 r1 r2 w'' ((h1.below hb).below hb') ((h2.below hb).below hb') l1 l2
  rwa [Int.natCast_mul]))
 rw[← Rat.mul_def'] at *
 obtain⟨a1,i1,c1,b1,j1,d1,rfl, -, -, -, -⟩:=h1
 obtain⟨a2,i2,c2,b2,j2,d2,rfl, -, -, -, -⟩:=h2
 have F0:=(((Fr.start w).alloc (frV (decide (r1.num<0)) a1 i1 c1 false b1 j1 d1) 68).alloc (frV (decide (r2.num<0)) a2 i2 c2 false b2 j2 d2) 68).alloc [.bool false, .slice none 0 0, .bool false, .slice none 0 0] 68
 simp only[World.size_alloc] at F0
 replace F0:=Lib.hid F0
 generalize decide (r1.num<0)=n1 at *
 generalize decide (r2.num<0)=n2 at *
 generalize r1*r2=r at *
 clear l1 l2 hx hy
 go_enter Tryz.func80,Tryz.ntmps80
 go_wp2_with fail
 refine(BO.out _ F0.out.below).mono ?_
 rintro e w3 ⟨V,rfl,⟨aq,kq,cq,aq2,kq2,cq2,rfl,l1,l2,f1,f2⟩,hb⟩
 have F3:=F0.out.call hb
 have lo:=(F0.out.least 0 rfl).2
 obtain⟨u0,u1,u2,u3⟩:=F3.c4 0 rfl
 obtain⟨v0,v1,v2,v3⟩:=F3.f4 0 rfl
 have PP:=F3.put 0 rfl (frV (decide (r.num<0)) aq kq cq false aq2 kq2 cq2) rfl
 have R:=Lib.hid (show FracR w.heap.size (w3.setCells (w.heap.size+1+1) 0 (frV (decide (r.num<0)) aq kq cq false aq2 kq2 cq2)) (.agg (frV (decide (r.num<0)) aq kq cq false aq2 kq2 cq2).toArray) r from
  ⟨aq,kq,cq,aq2,kq2,cq2,rfl,l1.setCells (fun b off e=>by have:=f1 b off e;omega) _ _,l2.setCells (fun b off e=>by have:=f2 b off e;omega) _ _,fun b off e=>by have:=f1 b off e;omega,fun b off e=>by have:=f2 b off e;omega⟩)
 have G:=Lib.hid (PP.get 0 rfl)
 have B:=Lib.hid PP.below
 clear hb l1 l2 f1 f2 F0 F3 PP lo BO
 go_wp2_with fail
 exact bodyPost_ret (ret_cell_tmp Tryz.results80 _ _ (w.heap.size+1+1) _ _ rfl G.out Tryz.underlying68 rfl infoF) rfl ⟨_,rfl,R.out,B.out⟩
theorem both_add (V1 V2:Value) (r1 r2:Rat) (N:Int) (D:Nat) (w:World) (h1:FracR 0 w V1 r1) (h2:FracR 0 w V2 r2) (l1:FL r1 900) (l2:FL r2 900) (hD:0<D) (hx:(canon N.natAbs).length≤4000) (hy:(canon D).length≤4000)
  (hf:∀ w',Below w.heap.size w w'→Calls Tryz.prog 145 #[V1,V2] w' (CPost w' N (D:Int))) :
  Calls Tryz.prog 126 #[V1,V2, .func (.func 145) #[] #[]] w (RPost w (mkRat N D)):=by
 have C1:=Lib.hid (fun w' (hb:Below w.heap.size w w')=>fcheck_any V1 r1 w' (h1.below hb) (l1.mono (by decide)))
 have C2:=Lib.hid (fun w' (hb:Below w.heap.size w w')=>fcheck_any V2 r2 w' (h2.below hb) (l2.mono (by decide)))
 have RD:=Lib.hid (fun V1 V2 w' (g1:Wide 0 w' V1 N) (g2:Wide 0 w' V2 (D:Int))=>reduce_any V1 V2 N D w' g1 g2 hD hx hy)
 obtain⟨a1,i1,c1,b1,j1,d1,rfl, -, -, -, -⟩:=h1
 obtain⟨a2,i2,c2,b2,j2,d2,rfl, -, -, -, -⟩:=h2
 have F0:=((((Fr.start w).alloc (frV (decide (r1.num<0)) a1 i1 c1 false b1 j1 d1) 68).alloc (frV (decide (r2.num<0)) a2 i2 c2 false b2 j2 d2) 68).alloc [.bool false, .slice none 0 0, .bool false, .slice none 0 0] 68).alloc [.int .i64 0] 35
 simp only[World.size_alloc] at F0
 replace F0:=Lib.hid F0
 replace hf:=Lib.hid hf
 generalize decide (r1.num<0)=n1 at *
 generalize decide (r2.num<0)=n2 at *
 generalize mkRat N D=r at *
 clear l1 l2 hx hy hD
 go_enter_defers Tryz.func126,Tryz.ntmps126
 go_wp2_with fail
 refine(C1.out _ F0.out.below).mono ?_
 rintro e w1 ⟨rfl,hb⟩
 have F1:=F0.out.call hb
 obtain⟨d0,d1,d2,d3⟩:=F1.c4 2 rfl
 replace F1:=Lib.hid F1
 clear hb F0 C1
 go_wp2_with (go_at_call 141;refine(want_walk _).mono ?_;rintro e w' ⟨rfl,rfl⟩)
 refine(C2.out _ F1.out.below).mono ?_
 rintro e w2 ⟨rfl,hb⟩
 have F2:=F1.out.call hb
 clear d0 d1 d2 d3
 obtain⟨c0,c1,c2,c3⟩:=F2.c4 3 rfl
 obtain⟨d0,d1,d2,d3⟩:=F2.c4 2 rfl
 replace F2:=Lib.hid F2
 clear hb F1 C2
 go_wp2_with (go_at_call 141;refine(want_walk _).mono ?_;rintro e w' ⟨rfl,rfl⟩)
 go_at_call 145
 refine(hf.out _ F2.out.below).mono ?_
 rintro e w3 ⟨U1,U2,rfl,hU1,hU2,hb⟩
 have F3:=Lib.hid (F2.out.call hb)
 have HU1:=Lib.hid hU1
 have HU2:=Lib.hid hU2
 clear hb hU1 hU2 F2 c0 c1 c2 c3 d0 d1 d2 d3
 go_wp2_with fail
 refine(RD.out _ _ _ HU1.out HU2.out).mono ?_
 rintro e w4 ⟨V,rfl,⟨aq,kq,cq,aq2,kq2,cq2,rfl,l1,l2,f1,f2⟩,hb⟩
 have F4:=F3.out.call hb
 have lo:=(F3.out.least 0 rfl).2
 obtain⟨u0,u1,u2,u3⟩:=F4.c4 1 rfl
 obtain⟨v0,v1,v2,v3⟩:=F4.f4 1 rfl
 have ce:=F4.cell 0 0 rfl rfl
 have fe:=F4.fz 0 0 rfl rfl
 have PA:=F4.put 1 rfl (frV (decide (r.num<0)) aq kq cq false aq2 kq2 cq2) rfl
 have PP:=PA.put 0 rfl [.int .i64 0] rfl
 have R:=Lib.hid (show FracR w.heap.size ((w4.setCells (w.heap.size+1+1) 0 (frV (decide (r.num<0)) aq kq cq false aq2 kq2 cq2)).setCells (w.heap.size+1+1+1) 0 [.int .i64 0]) (.agg (frV (decide (r.num<0)) aq kq cq false aq2 kq2 cq2).toArray) r from
  ⟨aq,kq,cq,aq2,kq2,cq2,rfl,(l1.setCells (fun b off e=>by have:=f1 b off e;omega) _ _).setCells (fun b off e=>by have:=f1 b off e;omega) _ _,(l2.setCells (fun b off e=>by have:=f2 b off e;omega) _ _).setCells (fun b off e=>by have:=f2 b off e;omega) _ _,fun b off e=>by have:=f1 b off e;omega,fun b off e=>by have:=f2 b off e;omega⟩)
 have G:=Lib.hid (PP.get 1 rfl)
 have hc:=PP.cell 0 0 rfl rfl
 have B:=Lib.hid PP.below
 clear hb l1 l2 f1 f2 F3 F4 PA PP lo RD HU1 HU2 hf
 have hc2:(((((w4.setCell ⟨w.heap.size+1+1,0,none⟩ (.bool (decide (r.num<0)))).setCell ⟨w.heap.size+1+1,1,none⟩ (.slice aq kq cq)).setCell ⟨w.heap.size+1+1,2,none⟩ (.bool false)).setCell ⟨w.heap.size+1+1,3,none⟩ (.slice aq2 kq2 cq2)).setCell ⟨w.heap.size+1+1+1,0,none⟩ (.int .i64 0)).cell? ⟨w.heap.size+1+1+1,0,none⟩=some (.int .i64 0):=hc
 clear hc
 replace hc2:=Lib.hid hc2
 go_wp2_with fail
 refine leaves_cons (f:=140) (args:=#[.pointer (some ⟨w.heap.size+1+1+1,0,none⟩)]) (by simp) (by simp[go_sem]) ?_
 refine(catch_idle ⟨w.heap.size+1+1+1,0,none⟩ _).mono ?_
 rintro e u' w'' ⟨rfl,rfl,rfl⟩
 refine⟨_,ret_cells Tryz.results126 _ _ (w.heap.size+1+1) (w.heap.size+1+1+1) _ (.int .i64 0) _ rfl rfl G.out Tryz.underlying68 rfl infoF (by simp[go_sem,hc2.out]),_,rfl,R.out,B.out⟩
theorem fadd_any (V1 V2:Value) (r1 r2:Rat) (w:World) (h1:FracR 0 w V1 r1) (h2:FracR 0 w V2 r2) (l1:FL r1 900) (l2:FL r2 900) :
  Calls Tryz.prog 89 #[V1,V2] w (RPost w (r1+r2)):=by
 have hx:(canon (r1.num*(r2.den:Int)+r2.num*(r1.den:Int)).natAbs).length≤4000:=by
  have q1:=cross_len l1 l2;have q2:=cross_len l2 l1;exact Nat.le_trans (len_addZ (L:=1800) q1 q2) (by decide)
 have hy:(canon (r1.den*r2.den)).length≤4000:=by
  have:=len_mulN r1.den r2.den;have:=l1.d;have:=l2.d;omega
 have BO:=Lib.hid (fun w' (hb:Below w.heap.size w w')=>both_add V1 V2 r1 r2 (r1.num*(r2.den:Int)+r2.num*(r1.den:Int)) (r1.den*r2.den) w' (h1.below hb) (h2.below hb) l1 l2 (Nat.mul_pos r1.den_pos r2.den_pos) hx hy (fun w'' hb'=>by
  have:=clo_add V1 V2 r1 r2 w'' ((h1.below hb).below hb') ((h2.below hb).below hb') l1 l2
  rwa [Int.natCast_mul]))
 rw[← Rat.add_def'] at *
 obtain⟨a1,i1,c1,b1,j1,d1,rfl, -, -, -, -⟩:=h1
 obtain⟨a2,i2,c2,b2,j2,d2,rfl, -, -, -, -⟩:=h2
 have F0:=(((Fr.start w).alloc (frV (decide (r1.num<0)) a1 i1 c1 false b1 j1 d1) 68).alloc (frV (decide (r2.num<0)) a2 i2 c2 false b2 j2 d2) 68).alloc [.bool false, .slice none 0 0, .bool false, .slice none 0 0] 68
 simp only[World.size_alloc] at F0
 replace F0:=Lib.hid F0
 generalize decide (r1.num<0)=n1 at *
 generalize decide (r2.num<0)=n2 at *
 generalize r1+r2=r at *
 clear l1 l2 hx hy
 go_enter Tryz.func89,Tryz.ntmps89
 go_wp2_with fail
 refine(BO.out _ F0.out.below).mono ?_
 rintro e w3 ⟨V,rfl,⟨aq,kq,cq,aq2,kq2,cq2,rfl,l1,l2,f1,f2⟩,hb⟩
 have F3:=F0.out.call hb
 have lo:=(F0.out.least 0 rfl).2
 obtain⟨u0,u1,u2,u3⟩:=F3.c4 0 rfl
 obtain⟨v0,v1,v2,v3⟩:=F3.f4 0 rfl
 have PP:=F3.put 0 rfl (frV (decide (r.num<0)) aq kq cq false aq2 kq2 cq2) rfl
 have R:=Lib.hid (show FracR w.heap.size (w3.setCells (w.heap.size+1+1) 0 (frV (decide (r.num<0)) aq kq cq false aq2 kq2 cq2)) (.agg (frV (decide (r.num<0)) aq kq cq false aq2 kq2 cq2).toArray) r from
  ⟨aq,kq,cq,aq2,kq2,cq2,rfl,l1.setCells (fun b off e=>by have:=f1 b off e;omega) _ _,l2.setCells (fun b off e=>by have:=f2 b off e;omega) _ _,fun b off e=>by have:=f1 b off e;omega,fun b off e=>by have:=f2 b off e;omega⟩)
 have G:=Lib.hid (PP.get 0 rfl)
 have B:=Lib.hid PP.below
 clear hb l1 l2 f1 f2 F0 F3 PP lo BO
 go_wp2_with fail
 exact bodyPost_ret (ret_cell_tmp Tryz.results89 _ _ (w.heap.size+1+1) _ _ rfl G.out Tryz.underlying68 rfl infoF) rfl ⟨_,rfl,R.out,B.out⟩
theorem both_sub (V1 V2:Value) (r1 r2:Rat) (N:Int) (D:Nat) (w:World) (h1:FracR 0 w V1 r1) (h2:FracR 0 w V2 r2) (l1:FL r1 900) (l2:FL r2 900) (hD:0<D) (hx:(canon N.natAbs).length≤4000) (hy:(canon D).length≤4000)
  (hf:∀ w',Below w.heap.size w w'→Calls Tryz.prog 182 #[V1,V2] w' (CPost w' N (D:Int))) :
  Calls Tryz.prog 126 #[V1,V2, .func (.func 182) #[] #[]] w (RPost w (mkRat N D)):=by
 have C1:=Lib.hid (fun w' (hb:Below w.heap.size w w')=>fcheck_any V1 r1 w' (h1.below hb) (l1.mono (by decide)))
 have C2:=Lib.hid (fun w' (hb:Below w.heap.size w w')=>fcheck_any V2 r2 w' (h2.below hb) (l2.mono (by decide)))
 have RD:=Lib.hid (fun V1 V2 w' (g1:Wide 0 w' V1 N) (g2:Wide 0 w' V2 (D:Int))=>reduce_any V1 V2 N D w' g1 g2 hD hx hy)
 obtain⟨a1,i1,c1,b1,j1,d1,rfl, -, -, -, -⟩:=h1
 obtain⟨a2,i2,c2,b2,j2,d2,rfl, -, -, -, -⟩:=h2
 have F0:=((((Fr.start w).alloc (frV (decide (r1.num<0)) a1 i1 c1 false b1 j1 d1) 68).alloc (frV (decide (r2.num<0)) a2 i2 c2 false b2 j2 d2) 68).alloc [.bool false, .slice none 0 0, .bool false, .slice none 0 0] 68).alloc [.int .i64 0] 35
 simp only[World.size_alloc] at F0
 replace F0:=Lib.hid F0
 replace hf:=Lib.hid hf
 generalize decide (r1.num<0)=n1 at *
 generalize decide (r2.num<0)=n2 at *
 generalize mkRat N D=r at *
 clear l1 l2 hx hy hD
 go_enter_defers Tryz.func126,Tryz.ntmps126
 go_wp2_with fail
 refine(C1.out _ F0.out.below).mono ?_
 rintro e w1 ⟨rfl,hb⟩
 have F1:=F0.out.call hb
 obtain⟨d0,d1,d2,d3⟩:=F1.c4 2 rfl
 replace F1:=Lib.hid F1
 clear hb F0 C1
 go_wp2_with (go_at_call 141;refine(want_walk _).mono ?_;rintro e w' ⟨rfl,rfl⟩)
 refine(C2.out _ F1.out.below).mono ?_
 rintro e w2 ⟨rfl,hb⟩
 have F2:=F1.out.call hb
 clear d0 d1 d2 d3
 obtain⟨c0,c1,c2,c3⟩:=F2.c4 3 rfl
 obtain⟨d0,d1,d2,d3⟩:=F2.c4 2 rfl
 replace F2:=Lib.hid F2
 clear hb F1 C2
 go_wp2_with (go_at_call 141;refine(want_walk _).mono ?_;rintro e w' ⟨rfl,rfl⟩)
 go_at_call 182
 refine(hf.out _ F2.out.below).mono ?_
 rintro e w3 ⟨U1,U2,rfl,hU1,hU2,hb⟩
 have F3:=Lib.hid (F2.out.call hb)
 have HU1:=Lib.hid hU1
 have HU2:=Lib.hid hU2
 clear hb hU1 hU2 F2 c0 c1 c2 c3 d0 d1 d2 d3
 go_wp2_with fail
 refine(RD.out _ _ _ HU1.out HU2.out).mono ?_
 rintro e w4 ⟨V,rfl,⟨aq,kq,cq,aq2,kq2,cq2,rfl,l1,l2,f1,f2⟩,hb⟩
 have F4:=F3.out.call hb
 have lo:=(F3.out.least 0 rfl).2
 obtain⟨u0,u1,u2,u3⟩:=F4.c4 1 rfl
 obtain⟨v0,v1,v2,v3⟩:=F4.f4 1 rfl
 have ce:=F4.cell 0 0 rfl rfl
 have fe:=F4.fz 0 0 rfl rfl
 have PA:=F4.put 1 rfl (frV (decide (r.num<0)) aq kq cq false aq2 kq2 cq2) rfl
 have PP:=PA.put 0 rfl [.int .i64 0] rfl
 have R:=Lib.hid (show FracR w.heap.size ((w4.setCells (w.heap.size+1+1) 0 (frV (decide (r.num<0)) aq kq cq false aq2 kq2 cq2)).setCells (w.heap.size+1+1+1) 0 [.int .i64 0]) (.agg (frV (decide (r.num<0)) aq kq cq false aq2 kq2 cq2).toArray) r from
  ⟨aq,kq,cq,aq2,kq2,cq2,rfl,(l1.setCells (fun b off e=>by have:=f1 b off e;omega) _ _).setCells (fun b off e=>by have:=f1 b off e;omega) _ _,(l2.setCells (fun b off e=>by have:=f2 b off e;omega) _ _).setCells (fun b off e=>by have:=f2 b off e;omega) _ _,fun b off e=>by have:=f1 b off e;omega,fun b off e=>by have:=f2 b off e;omega⟩)
 have G:=Lib.hid (PP.get 1 rfl)
 have hc:=PP.cell 0 0 rfl rfl
 have B:=Lib.hid PP.below
 clear hb l1 l2 f1 f2 F3 F4 PA PP lo RD HU1 HU2 hf
 have hc2:(((((w4.setCell ⟨w.heap.size+1+1,0,none⟩ (.bool (decide (r.num<0)))).setCell ⟨w.heap.size+1+1,1,none⟩ (.slice aq kq cq)).setCell ⟨w.heap.size+1+1,2,none⟩ (.bool false)).setCell ⟨w.heap.size+1+1,3,none⟩ (.slice aq2 kq2 cq2)).setCell ⟨w.heap.size+1+1+1,0,none⟩ (.int .i64 0)).cell? ⟨w.heap.size+1+1+1,0,none⟩=some (.int .i64 0):=hc
 clear hc
 replace hc2:=Lib.hid hc2
 go_wp2_with fail
 refine leaves_cons (f:=140) (args:=#[.pointer (some ⟨w.heap.size+1+1+1,0,none⟩)]) (by simp) (by simp[go_sem]) ?_
 refine(catch_idle ⟨w.heap.size+1+1+1,0,none⟩ _).mono ?_
 rintro e u' w'' ⟨rfl,rfl,rfl⟩
 refine⟨_,ret_cells Tryz.results126 _ _ (w.heap.size+1+1) (w.heap.size+1+1+1) _ (.int .i64 0) _ rfl rfl G.out Tryz.underlying68 rfl infoF (by simp[go_sem,hc2.out]),_,rfl,R.out,B.out⟩
theorem fsub_any (V1 V2:Value) (r1 r2:Rat) (w:World) (h1:FracR 0 w V1 r1) (h2:FracR 0 w V2 r2) (l1:FL r1 900) (l2:FL r2 900) :
  Calls Tryz.prog 125 #[V1,V2] w (RPost w (r1-r2)):=by
 have hx:(canon (r1.num*(r2.den:Int)-r2.num*(r1.den:Int)).natAbs).length≤4000:=by
  have q1:=cross_len l1 l2;have q2:=cross_len l2 l1;rw[Int.sub_eq_add_neg];exact Nat.le_trans (len_addZ (L:=1800) q1 (by rw[Int.natAbs_neg];exact q2)) (by decide)
 have hy:(canon (r1.den*r2.den)).length≤4000:=by
  have:=len_mulN r1.den r2.den;have:=l1.d;have:=l2.d;omega
 have BO:=Lib.hid (fun w' (hb:Below w.heap.size w w')=>both_sub V1 V2 r1 r2 (r1.num*(r2.den:Int)-r2.num*(r1.den:Int)) (r1.den*r2.den) w' (h1.below hb) (h2.below hb) l1 l2 (Nat.mul_pos r1.den_pos r2.den_pos) hx hy (fun w'' hb'=>by
  have:=clo_sub V1 V2 r1 r2 w'' ((h1.below hb).below hb') ((h2.below hb).below hb') l1 l2
  rwa [Int.natCast_mul]))
 rw[← Rat.sub_def'] at *
 obtain⟨a1,i1,c1,b1,j1,d1,rfl, -, -, -, -⟩:=h1
 obtain⟨a2,i2,c2,b2,j2,d2,rfl, -, -, -, -⟩:=h2
 have F0:=(((Fr.start w).alloc (frV (decide (r1.num<0)) a1 i1 c1 false b1 j1 d1) 68).alloc (frV (decide (r2.num<0)) a2 i2 c2 false b2 j2 d2) 68).alloc [.bool false, .slice none 0 0, .bool false, .slice none 0 0] 68
 simp only[World.size_alloc] at F0
 replace F0:=Lib.hid F0
 generalize decide (r1.num<0)=n1 at *
 generalize decide (r2.num<0)=n2 at *
 generalize r1-r2=r at *
 clear l1 l2 hx hy
 go_enter Tryz.func125,Tryz.ntmps125
 go_wp2_with fail
 refine(BO.out _ F0.out.below).mono ?_
 rintro e w3 ⟨V,rfl,⟨aq,kq,cq,aq2,kq2,cq2,rfl,l1,l2,f1,f2⟩,hb⟩
 have F3:=F0.out.call hb
 have lo:=(F0.out.least 0 rfl).2
 obtain⟨u0,u1,u2,u3⟩:=F3.c4 0 rfl
 obtain⟨v0,v1,v2,v3⟩:=F3.f4 0 rfl
 have PP:=F3.put 0 rfl (frV (decide (r.num<0)) aq kq cq false aq2 kq2 cq2) rfl
 have R:=Lib.hid (show FracR w.heap.size (w3.setCells (w.heap.size+1+1) 0 (frV (decide (r.num<0)) aq kq cq false aq2 kq2 cq2)) (.agg (frV (decide (r.num<0)) aq kq cq false aq2 kq2 cq2).toArray) r from
  ⟨aq,kq,cq,aq2,kq2,cq2,rfl,l1.setCells (fun b off e=>by have:=f1 b off e;omega) _ _,l2.setCells (fun b off e=>by have:=f2 b off e;omega) _ _,fun b off e=>by have:=f1 b off e;omega,fun b off e=>by have:=f2 b off e;omega⟩)
 have G:=Lib.hid (PP.get 0 rfl)
 have B:=Lib.hid PP.below
 clear hb l1 l2 f1 f2 F0 F3 PP lo BO
 go_wp2_with fail
 exact bodyPost_ret (ret_cell_tmp Tryz.results125 _ _ (w.heap.size+1+1) _ _ rfl G.out Tryz.underlying68 rfl infoF) rfl ⟨_,rfl,R.out,B.out⟩
theorem both_div (V1 V2:Value) (r1 r2:Rat) (N:Int) (D:Nat) (w:World) (h1:FracR 0 w V1 r1) (h2:FracR 0 w V2 r2) (l1:FL r1 900) (l2:FL r2 900) (hD:0<D) (hx:(canon N.natAbs).length≤4000) (hy:(canon D).length≤4000)
  (hf:∀ w',Below w.heap.size w w'→Calls Tryz.prog 210 #[V1,V2] w' (CPost w' N (D:Int))) :
  Calls Tryz.prog 126 #[V1,V2, .func (.func 210) #[] #[]] w (RPost w (mkRat N D)):=by
 have C1:=Lib.hid (fun w' (hb:Below w.heap.size w w')=>fcheck_any V1 r1 w' (h1.below hb) (l1.mono (by decide)))
 have C2:=Lib.hid (fun w' (hb:Below w.heap.size w w')=>fcheck_any V2 r2 w' (h2.below hb) (l2.mono (by decide)))
 have RD:=Lib.hid (fun V1 V2 w' (g1:Wide 0 w' V1 N) (g2:Wide 0 w' V2 (D:Int))=>reduce_any V1 V2 N D w' g1 g2 hD hx hy)
 obtain⟨a1,i1,c1,b1,j1,d1,rfl, -, -, -, -⟩:=h1
 obtain⟨a2,i2,c2,b2,j2,d2,rfl, -, -, -, -⟩:=h2
 have F0:=((((Fr.start w).alloc (frV (decide (r1.num<0)) a1 i1 c1 false b1 j1 d1) 68).alloc (frV (decide (r2.num<0)) a2 i2 c2 false b2 j2 d2) 68).alloc [.bool false, .slice none 0 0, .bool false, .slice none 0 0] 68).alloc [.int .i64 0] 35
 simp only[World.size_alloc] at F0
 replace F0:=Lib.hid F0
 replace hf:=Lib.hid hf
 generalize decide (r1.num<0)=n1 at *
 generalize decide (r2.num<0)=n2 at *
 generalize mkRat N D=r at *
 clear l1 l2 hx hy hD
 go_enter_defers Tryz.func126,Tryz.ntmps126
 go_wp2_with fail
 refine(C1.out _ F0.out.below).mono ?_
 rintro e w1 ⟨rfl,hb⟩
 have F1:=F0.out.call hb
 obtain⟨d0,d1,d2,d3⟩:=F1.c4 2 rfl
 replace F1:=Lib.hid F1
 clear hb F0 C1
 go_wp2_with (go_at_call 141;refine(want_walk _).mono ?_;rintro e w' ⟨rfl,rfl⟩)
 refine(C2.out _ F1.out.below).mono ?_
 rintro e w2 ⟨rfl,hb⟩
 have F2:=F1.out.call hb
 clear d0 d1 d2 d3
 obtain⟨c0,c1,c2,c3⟩:=F2.c4 3 rfl
 obtain⟨d0,d1,d2,d3⟩:=F2.c4 2 rfl
 replace F2:=Lib.hid F2
 clear hb F1 C2
 go_wp2_with (go_at_call 141;refine(want_walk _).mono ?_;rintro e w' ⟨rfl,rfl⟩)
 go_at_call 210
 refine(hf.out _ F2.out.below).mono ?_
 rintro e w3 ⟨U1,U2,rfl,hU1,hU2,hb⟩
 have F3:=Lib.hid (F2.out.call hb)
 have HU1:=Lib.hid hU1
 have HU2:=Lib.hid hU2
 clear hb hU1 hU2 F2 c0 c1 c2 c3 d0 d1 d2 d3
 go_wp2_with fail
 refine(RD.out _ _ _ HU1.out HU2.out).mono ?_
 rintro e w4 ⟨V,rfl,⟨aq,kq,cq,aq2,kq2,cq2,rfl,l1,l2,f1,f2⟩,hb⟩
 have F4:=F3.out.call hb
 have lo:=(F3.out.least 0 rfl).2
 obtain⟨u0,u1,u2,u3⟩:=F4.c4 1 rfl
 obtain⟨v0,v1,v2,v3⟩:=F4.f4 1 rfl
 have ce:=F4.cell 0 0 rfl rfl
 have fe:=F4.fz 0 0 rfl rfl
 have PA:=F4.put 1 rfl (frV (decide (r.num<0)) aq kq cq false aq2 kq2 cq2) rfl
 have PP:=PA.put 0 rfl [.int .i64 0] rfl
 have R:=Lib.hid (show FracR w.heap.size ((w4.setCells (w.heap.size+1+1) 0 (frV (decide (r.num<0)) aq kq cq false aq2 kq2 cq2)).setCells (w.heap.size+1+1+1) 0 [.int .i64 0]) (.agg (frV (decide (r.num<0)) aq kq cq false aq2 kq2 cq2).toArray) r from
  ⟨aq,kq,cq,aq2,kq2,cq2,rfl,(l1.setCells (fun b off e=>by have:=f1 b off e;omega) _ _).setCells (fun b off e=>by have:=f1 b off e;omega) _ _,(l2.setCells (fun b off e=>by have:=f2 b off e;omega) _ _).setCells (fun b off e=>by have:=f2 b off e;omega) _ _,fun b off e=>by have:=f1 b off e;omega,fun b off e=>by have:=f2 b off e;omega⟩)
 have G:=Lib.hid (PP.get 1 rfl)
 have hc:=PP.cell 0 0 rfl rfl
 have B:=Lib.hid PP.below
 clear hb l1 l2 f1 f2 F3 F4 PA PP lo RD HU1 HU2 hf
 have hc2:(((((w4.setCell ⟨w.heap.size+1+1,0,none⟩ (.bool (decide (r.num<0)))).setCell ⟨w.heap.size+1+1,1,none⟩ (.slice aq kq cq)).setCell ⟨w.heap.size+1+1,2,none⟩ (.bool false)).setCell ⟨w.heap.size+1+1,3,none⟩ (.slice aq2 kq2 cq2)).setCell ⟨w.heap.size+1+1+1,0,none⟩ (.int .i64 0)).cell? ⟨w.heap.size+1+1+1,0,none⟩=some (.int .i64 0):=hc
 clear hc
 replace hc2:=Lib.hid hc2
 go_wp2_with fail
 refine leaves_cons (f:=140) (args:=#[.pointer (some ⟨w.heap.size+1+1+1,0,none⟩)]) (by simp) (by simp[go_sem]) ?_
 refine(catch_idle ⟨w.heap.size+1+1+1,0,none⟩ _).mono ?_
 rintro e u' w'' ⟨rfl,rfl,rfl⟩
 refine⟨_,ret_cells Tryz.results126 _ _ (w.heap.size+1+1) (w.heap.size+1+1+1) _ (.int .i64 0) _ rfl rfl G.out Tryz.underlying68 rfl infoF (by simp[go_sem,hc2.out]),_,rfl,R.out,B.out⟩
theorem fdiv_any (V1 V2:Value) (r1 r2:Rat) (w:World) (h1:FracR 0 w V1 r1) (h2:FracR 0 w V2 r2) (l1:FL r1 900) (l2:FL r2 900) (h0:0<r2.num) :
  Calls Tryz.prog 180 #[V1,V2] w (RPost w (r1/r2)):=by
 have hx:(canon (r1.num*(r2.den:Int)).natAbs).length≤4000:=by
  have:=cross_len l1 l2;omega
 have hy:(canon (r1.den*r2.num.toNat)).length≤4000:=by
  have:=len_mulN r1.den r2.num.toNat;have:=l1.d;have:=l2.n;rw[show r2.num.toNat=r2.num.natAbs by omega] at *;omega
 have BO:=Lib.hid (fun w' (hb:Below w.heap.size w w')=>both_div V1 V2 r1 r2 (r1.num*(r2.den:Int)) (r1.den*r2.num.toNat) w' (h1.below hb) (h2.below hb) l1 l2 (Nat.mul_pos r1.den_pos (by omega)) hx hy (fun w'' hb'=>by
  have:=clo_div V1 V2 r1 r2 w'' ((h1.below hb).below hb') ((h2.below hb).below hb') l1 l2 h0
  rwa [show (r1.den:Int)*r2.num=((r1.den*r2.num.toNat:Nat):Int) by rw[Int.natCast_mul,Int.toNat_of_nonneg (Int.le_of_lt h0)]] at this))
 rw[← div_mk r1 r2 h0] at *
 obtain⟨a1,i1,c1,b1,j1,d1,rfl, -, -, -, -⟩:=h1
 obtain⟨a2,i2,c2,b2,j2,d2,rfl, -, -, -, -⟩:=h2
 have F0:=(((Fr.start w).alloc (frV (decide (r1.num<0)) a1 i1 c1 false b1 j1 d1) 68).alloc (frV (decide (r2.num<0)) a2 i2 c2 false b2 j2 d2) 68).alloc [.bool false, .slice none 0 0, .bool false, .slice none 0 0] 68
 simp only[World.size_alloc] at F0
 replace F0:=Lib.hid F0
 generalize decide (r1.num<0)=n1 at *
 generalize decide (r2.num<0)=n2 at *
 generalize r1/r2=r at *
 clear l1 l2 hx hy
 go_enter Tryz.func180,Tryz.ntmps180
 go_wp2_with fail
 refine(BO.out _ F0.out.below).mono ?_
 rintro e w3 ⟨V,rfl,⟨aq,kq,cq,aq2,kq2,cq2,rfl,l1,l2,f1,f2⟩,hb⟩
 have F3:=F0.out.call hb
 have lo:=(F0.out.least 0 rfl).2
 obtain⟨u0,u1,u2,u3⟩:=F3.c4 0 rfl
 obtain⟨v0,v1,v2,v3⟩:=F3.f4 0 rfl
 have PP:=F3.put 0 rfl (frV (decide (r.num<0)) aq kq cq false aq2 kq2 cq2) rfl
 have R:=Lib.hid (show FracR w.heap.size (w3.setCells (w.heap.size+1+1) 0 (frV (decide (r.num<0)) aq kq cq false aq2 kq2 cq2)) (.agg (frV (decide (r.num<0)) aq kq cq false aq2 kq2 cq2).toArray) r from
  ⟨aq,kq,cq,aq2,kq2,cq2,rfl,l1.setCells (fun b off e=>by have:=f1 b off e;omega) _ _,l2.setCells (fun b off e=>by have:=f2 b off e;omega) _ _,fun b off e=>by have:=f1 b off e;omega,fun b off e=>by have:=f2 b off e;omega⟩)
 have G:=Lib.hid (PP.get 0 rfl)
 have B:=Lib.hid PP.below
 clear hb l1 l2 f1 f2 F0 F3 PP lo BO
 go_wp2_with fail
 exact bodyPost_ret (ret_cell_tmp Tryz.results180 _ _ (w.heap.size+1+1) _ _ rfl G.out Tryz.underlying68 rfl infoF) rfl ⟨_,rfl,R.out,B.out⟩
end Wd
namespace Ls

def S (a b:Nat→Int):Nat→Int
 | 0=>0
 | n+1=>S a b n+1*(a n*b n)
def one (_:Nat):Int:=1
theorem S_one (n:Nat):S one one n=n:=by
 induction n with
 | zero=>rfl
 | succ n ih=>simp only[S,ih,one];omega
theorem S_comm (a b:Nat→Int) (n:Nat):S a b n=S b a n:=by
 induction n with
 | zero=>rfl
 | succ n ih=>simp only[S,ih,Int.mul_comm]
def Q (t:Nat→Int) (x:Int):Nat→Int
 | 0=>0
 | n+1=>Q t x n+(t n-x)*(t n-x)
theorem sq_nonneg (x:Int):0≤x*x:=by
 rcases Int.le_total 0 x with h|h
 ·exact Int.mul_nonneg h h
 ·have:=Int.mul_nonneg (show 0 ≤ -x by omega) (show 0 ≤ -x by omega)
  rwa [Int.neg_mul_neg] at this
theorem sq_pos {x:Int} (h:x≠0):0<x*x:=by
 have:=sq_nonneg x
 have h2:x*x≠0:=Int.mul_ne_zero h h
 omega
theorem Q_nonneg (t:Nat→Int) (x:Int) (n:Nat):0≤Q t x n:=by
 induction n with
 | zero=>exact Int.le_refl _
 | succ n ih=>rw[Q];have:=sq_nonneg (t n-x);omega
theorem Q_pos {t:Nat→Int} {x:Int} {n i:Nat} (hi:i<n) (h:t i≠x):0<Q t x n:=by
 induction n with
 | zero=>omega
 | succ n ih =>
  rw[Q]
  rcases Nat.lt_or_eq_of_le (Nat.le_of_lt_succ hi) with g|g
  ·have:=ih g;have:=sq_nonneg (t n-x);omega
  ·subst g
   have:=Q_nonneg t x i
   have:=sq_pos (show t i-x≠0 by omega)
   omega
theorem Q_eq (t:Nat→Int) (x:Int) (n:Nat):Q t x n=S t t n-2*x*S one t n+n*x*x:=by
 induction n with
 | zero=>simp[Q,S]
 | succ n ih =>
  rw[Q,S,S,ih]
  simp only[one]
  push_cast
  grind
def D (t:Nat→Int) (n:Nat):Int:=S t t n*S one one n-S one t n*S one t n
theorem D_succ (t:Nat→Int) (n:Nat):D t (n+1)=D t n+Q t (t n) n:=by
 rw[Q_eq,D,D,S_one,S_one,S,S]
 simp only[one]
 push_cast
 grind
theorem D_nonneg (t:Nat→Int) (n:Nat):0≤D t n:=by
 induction n with
 | zero=>simp[D,S]
 | succ n ih=>rw[D_succ];have:=Q_nonneg t (t n) n;omega
theorem D_pos {t:Nat→Int} {n i j:Nat} (hi:i<n) (hj:j<n) (h:t i≠t j):0<D t n:=by
 induction n with
 | zero=>omega
 | succ n ih =>
  rw[D_succ]
  have h1:=Q_nonneg t (t n) n
  have h2:=D_nonneg t n
  by_cases e1:i=n
  ·subst e1
   have hji:j<i:=by
    rcases Nat.lt_or_eq_of_le (Nat.le_of_lt_succ hj) with g|g
    ·exact g
    ·exact absurd (by rw[g]) h
   have:0<Q t (t i) i:=Q_pos hji (fun e=>h e.symm)
   omega
  ·by_cases e2:j=n
   ·subst e2
    have:0<Q t (t j) j:=Q_pos (i:=i) (by omega) h
    omega
   ·have:=ih (by omega) (by omega);omega
def E (t v:Nat→Int) (n:Nat):Int:=S t v n*S one one n-S one t n*S one v n
def x1 (t v:Nat→Int) (n:Nat):Rat:=(E t v n:Rat)/(D t n:Rat)
def x0 (t v:Nat→Int) (n:Nat):Rat:=((S one v n:Int)-(S one t n:Rat)*x1 t v n)/(S one one n:Rat)
def roundR (r:Rat):Int :=
 if (r.den:Int)<2*(r.num % (r.den:Int))∨(2*(r.num % (r.den:Int))=(r.den:Int)∧(r.num/(r.den:Int)) % 2=1) then r.num/(r.den:Int)+1 else r.num/(r.den:Int)
theorem roundR_near (r:Rat):(roundR r:Rat)-r≤1/2∧r-(roundR r:Rat)≤1/2:=by
 have hd:(0:Int)<(r.den:Int):=by have:=r.den_pos;omega
 have e1:=Int.mul_ediv_add_emod r.num (r.den:Int)
 have m0:=Int.emod_nonneg r.num (show (r.den:Int)≠0 by omega)
 have m1:=Int.emod_lt_of_pos r.num hd
 have hne:((r.den:Int):Rat)≠0:=fun e=>by
  have:(r.den:Int)=0:=by exact_mod_cast e
  omega
 have hr:r*((r.den:Int):Rat)=(r.num:Rat):=by
  have:=Rat.num_divInt_den r
  rw[Rat.divInt_eq_div] at this
  have h2:(r.num:Rat)/((r.den:Int):Rat)*((r.den:Int):Rat)=(r.num:Rat):=Rat.div_mul_cancel hne
  rwa [this] at h2
 have hdR:(0:Rat)<((r.den:Int):Rat):=Rat.intCast_pos.2 hd
 have key:∀ z:Int,(2*(z*(r.den:Int)-r.num)≤(r.den:Int)∧2*(r.num-z*(r.den:Int))≤(r.den:Int))→(z:Rat)-r≤1/2∧r-(z:Rat)≤1/2:=by
  rintro z ⟨a,b⟩
  have a':((2*(z*(r.den:Int)-r.num):Int):Rat)≤((r.den:Int):Rat):=Rat.intCast_le_intCast.2 a
  have b':((2*(r.num-z*(r.den:Int)):Int):Rat)≤((r.den:Int):Rat):=Rat.intCast_le_intCast.2 b
  simp only[Rat.intCast_mul,Rat.intCast_sub] at a' b'
  rw[← hr] at a' b'
  generalize ((r.den:Int):Rat)=d at *
  constructor
  ·refine Rat.le_of_mul_le_mul_right (c:=d) ?_ hdR
   grind
  ·refine Rat.le_of_mul_le_mul_right (c:=d) ?_ hdR
   grind
 apply key
 unfold roundR
 generalize r.num/(r.den:Int)=q at *
 generalize r.num % (r.den:Int)=m at *
 generalize (r.den:Int)=d at *
 have e3:q*d=d*q:=Int.mul_comm _ _
 split
 ·rename_i h
  rw[Int.add_mul,e3]
  omega
 ·rename_i h
  rw[e3]
  omega
end Ls
end Go.Proofs.YtdnogmanbdgadaaGreatDoor
