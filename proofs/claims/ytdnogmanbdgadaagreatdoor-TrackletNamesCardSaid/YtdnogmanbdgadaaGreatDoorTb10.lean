/-
  Lemmas and walks, texts joined: TKAl, TKBt, TKCk, TKGr.
-/
import Derived.Deep.RegionHeld3
import Derived.LoopTactic
import Derived.Test.YtdnogmanbdgadaaGreatDoorTb09
import Derived.Test.YtdnogmanbdgadaaGreatDoorTb08
import Derived.Test.YtdnogmanbdgadaaGreatDoorTb07
set_option linter.unusedSimpArgs false
set_option linter.unusedVariables false
set_option maxRecDepth 100000
set_option maxHeartbeats 40000000
namespace Go.Proofs.YtdnogmanbdgadaaGreatDoor
namespace Tw
open Go.RowKit Lw Tk _root_.Go.Proofs.YtdnogmanbdgadaaGreatDoor.Op Ow

structure PairAt (w:World) (B off n i j:Nat) (a b:Ob):Prop where
 hi:i<n
 hj:j<n
 lt:B<w.heap.size
 ra:w.rangeAt B (off+i*8) (obsC a)
 rb:w.rangeAt B (off+j*8) (obsC b)
 ok:okO a
 kb:okO b
theorem PairAt.below {w w':World} {B off n i j:Nat} {a b:Ob} (h:PairAt w B off n i j a b) (hb:Below w.heap.size w w'):PairAt w' B off n i j a b :=
 ⟨h.hi,h.hj,Nat.lt_of_lt_of_le h.lt hb.size,rangeAt_below h.ra hb h.lt,rangeAt_below h.rb hb h.lt,h.ok,h.kb⟩
theorem PairAt.dif {w:World} {B off n i j:Nat} {a b:Ob} (h:PairAt w B off n i j a b):Dif a b:=dif_of h.ok h.kb
theorem PairAt.siteA {w:World} {B off n i j:Nat} {a b:Ob} (h:PairAt w B off n i j a b):w.cell? ⟨B,off+i*8+1,none⟩=some (.string a.site):=h.ra 1 _ rfl
theorem PairAt.siteB {w:World} {B off n i j:Nat} {a b:Ob} (h:PairAt w B off n i j a b):w.cell? ⟨B,off+j*8+1,none⟩=some (.string b.site):=h.rb 1 _ rfl
theorem away_any (n c i j B off:Nat) (u:Rl) (a b:Ob) (w:World) (h:PairAt w B off n i j a b) :
  Calls Tryz.prog 63 #[ntV (some ⟨B,off,none⟩) n c u, .int .i64 i, .int .i64 j] w fun e w'=>e = .returned (.tuple #[.agg #[.int .i64 (dX a b), .int .i64 (dY a b)], .int .i64 (dT a b)])∧Below w.heap.size w w':=by
 obtain⟨-, -, -, -,a0,a1, -⟩:=h.ok
 obtain⟨-, -, -, -,b0,b1, -⟩:=h.kb
 exact away_core n c i j B off u a b w h.hi h.hj h.lt h.ra h.rb h.dif (by omega) (by omega) (by omega) (by omega)
theorem site_eq {s t:ByteArray} (h:s=t):(s.toList==t.toList)=true:=by rw[h];exact beq_self_eq_true _
theorem site_ne {s t:ByteArray} (h:¬ s=t):(s.toList==t.toList)=false:=beq_eq_false_iff_ne.2 (fun e=>h (by
 rw[ByteArray.toList_eq,ByteArray.toList_eq] at e
 cases s with|mk x=>cases t with|mk y=>cases x;cases y;simp_all))
theorem allowed_any (n c i j B off:Nat) (u:Rl) (a b:Ob) (w:World) (h:PairAt w B off n i j a b) (hu:okR u) :
  Calls Tryz.prog 62 #[ntV (some ⟨B,off,none⟩) n c u, .int .i64 i, .int .i64 j] w fun e w'=>e = .returned (.bool (decide (alw u a b)))∧Below w.heap.size w w':=by
 have AW:=Lib.hid (fun w' (hb:Below w.heap.size w w')=>away_any n c i j B off u a b w' (h.below hb))
 have SA:=Lib.hid (fun w' (hb:Below w.heap.size w w')=>(h.below hb).siteA)
 have SB:=Lib.hid (fun w' (hb:Below w.heap.size w w')=>(h.below hb).siteB)
 have hd:=h.dif
 have PL:=Lib.hid (fun w'=>product_any u.speed (dT a b) w' (by obtain⟨-,⟨h1,h2⟩, -⟩:=hu;omega) (by have:=hd.t0;have:=hd.t1;omega))
 have PX:=Lib.hid (fun w'=>product_any (dX a b) 86400000000 w' (by have:=hd.x0;have:=hd.x1;omega) (by decide))
 have PY:=Lib.hid (fun w'=>product_any (dY a b) 86400000000 w' (by have:=hd.y0;have:=hd.y1;omega) (by decide))
 have F0:=Lib.hid ((Fr.start w).alloc (ntC (some ⟨B,off,none⟩) n c u) 75)
 have i0:(0:Int)≤(i:Int):=by omega
 have i1:(i:Int)<(n:Int):=by have:=h.hi;omega
 have j0:(0:Int)≤(j:Int):=by omega
 have j1:(j:Int)<(n:Int):=by have:=h.hj;omega
 have YES:Hid (a.site=b.site→u.least≤dT a b→dT a b≤u.most→mag (dX a b) 86400000000≤mag u.speed (dT a b)→decide (alw u a b)=decide (mag (dY a b) 86400000000≤mag u.speed (dT a b))):=Lib.hid (fun h1 h2 h3 h4=>decide_eq_decide.2 ⟨fun h=>h.2.2.2.2,fun h=>⟨h1,h2,h3,h4,h⟩⟩)
 have NOX:Hid (¬ mag (dX a b) 86400000000≤mag u.speed (dT a b)→decide (alw u a b)=false):=Lib.hid (fun h1=>decide_eq_false (fun h=>h1 h.2.2.2.1))
 have NOS:Hid (¬ (a.site=b.site∧u.least≤dT a b∧dT a b≤u.most)→decide (alw u a b)=false):=Lib.hid (fun h1=>decide_eq_false (fun h=>h1 ⟨h.1,h.2.1,h.2.2.1⟩))
 generalize decide (alw u a b)=R at *
 clear h hu hd
 go_enter Tryz.func62,Tryz.ntmps62
 go_wp2_with fail
 refine(AW.out _ F0.out.below).mono ?_
 rintro e w1 ⟨rfl,hb⟩
 generalize dX a b=dx at *
 generalize dY a b=dy at *
 generalize dT a b=dt at *
 have F1:=(F0.out.call hb).alloc [.int .i64 dx, .int .i64 dy] 112
 obtain⟨cn0,cn1,cn2,cn3,cn4,cn5⟩:=F1.c6 1 rfl
 obtain⟨cx0,cx1⟩:=F1.c2 0 rfl
 have sa:=SA.out _ F1.below
 have sb:=SB.out _ F1.below
 have F1:=Lib.hid F1
 clear hb AW F0
 go_wp2_with fail
 by_cases hs:a.site=b.site
 rotate_left
 ·have es:=site_ne hs
  obtain rfl:=NOS.out (fun h=>hs h.1)
  clear YES NOX NOS PL PX PY SA SB
  go_quiet (fail)
  go_wp2_with fail
  exact bodyPost_ret (results_tmp rfl _ _ _) rfl ⟨rfl,drewN_below2 F1.out.below _⟩
 have es:=site_eq hs
 by_cases h1:dt<u.least
 ·obtain rfl:=NOS.out (fun h=>by omega)
  clear YES NOX NOS PL PX PY SA SB
  go_quiet (fail)
  go_wp2_with fail
  exact bodyPost_ret (results_tmp rfl _ _ _) rfl ⟨rfl,drewN_below2 F1.out.below _⟩
 by_cases h2:u.most<dt
 ·obtain rfl:=NOS.out (fun h=>by omega)
  clear YES NOX NOS PL PX PY SA SB
  go_quiet (fail)
  go_wp2_with fail
  exact bodyPost_ret (results_tmp rfl _ _ _) rfl ⟨rfl,drewN_below2 F1.out.below _⟩
 have YES2:=Lib.hid (YES.out hs (by omega) (by omega))
 clear NOS SA SB YES
 go_quiet (fail)
 have F2:=Lib.hid (F1.out.drewN nq)
 clear F1 sa sb es cn0 cn1 cn2 cn3 cn4 cn5 cx0 cx1
 obtain⟨cn0,cn1,cn2,cn3,cn4,cn5⟩:=F2.out.c6 1 rfl
 go_wp2_with fail
 refine(PL.out _).mono ?_
 rintro e w3 ⟨rfl,hb⟩
 generalize sgn u.speed dt=sl at *
 generalize mag u.speed dt=ml at *
 have F3:=(F2.out.call hb).alloc (sgC sl ml) 116
 have F3:=Lib.hid F3
 clear hb PL F2 cn0 cn1 cn2 cn3 cn4 cn5
 go_wp2_with fail
 generalize w3.alloc (.cells (sgC sl ml).toArray 116)=wa at *
 have KS:=fun w' (h:Fr w [(w3.heap.size,sgC sl ml),(w1.heap.size,[.int .i64 dx, .int .i64 dy]),(w.heap.size,ntC (some ⟨B,off,none⟩) n c u)] w')=>(show w'.cell? ⟨w1.heap.size,0,none⟩=some (.int .i64 dx)∧w'.cell? ⟨w1.heap.size,1,none⟩=some (.int .i64 dy)∧w'.cell? ⟨w3.heap.size,0,none⟩=some (.bool sl)∧w'.cell? ⟨w3.heap.size,1,none⟩=some (.int .u64 ((ml:Int)/18446744073709551616))∧w'.cell? ⟨w3.heap.size,2,none⟩=some (.int .u64 ((ml:Int) % 18446744073709551616)) from⟨h.cell 1 0 rfl rfl,h.cell 1 1 rfl rfl,h.cell 0 0 rfl rfl,h.cell 0 1 rfl rfl,h.cell 0 2 rfl rfl⟩)
 refine wp_region_held_drew (S:=fun w'=>w'.cell? ⟨w1.heap.size,0,none⟩=some (.int .i64 dx)∧w'.cell? ⟨w1.heap.size,1,none⟩=some (.int .i64 dy)∧w'.cell? ⟨w3.heap.size,0,none⟩=some (.bool sl)∧w'.cell? ⟨w3.heap.size,1,none⟩=some (.int .u64 ((ml:Int)/18446744073709551616))∧w'.cell? ⟨w3.heap.size,2,none⟩=some (.int .u64 ((ml:Int) % 18446744073709551616))) (by kernel_rfl) (KS _ F3.out.drew) (fun hHeld=>?_)
 have FQ:=Lib.hid F3.out.drew
 clear F3
 refine Lw.tK 0 hHeld (h:=?_)
 refine Lw.tK 1 hHeld (hy:=Or.inl ⟨by rfl,by intro w hSw;obtain⟨s0,s1,s2,s3,s4⟩:=hSw;go_simp;try with_reducible rfl⟩) (h:=?_)
 refine Lw.tK 3 hHeld (hy:=Or.inl ⟨by rfl,by intro w hSw;obtain⟨s0,s1,s2,s3,s4⟩:=hSw;go_simp;try with_reducible rfl⟩) (h:=?_)
 refine wpAnyH_ready (rs:=[2]) (by kernel_rfl) (by simp) ?_
 refine AllReadyH.cons rfl (fun K' hK=>?_) AllReadyH.nil
 clear hHeld
 go_simp
 refine(PX.out _).mono ?_
 rintro e w4 ⟨rfl,hb⟩
 have FQ:=Lib.hid (FQ.out.call hb)
 clear hb PX
 generalize sgn dx 86400000000=sx at *
 generalize mag dx 86400000000=mx at *
 refine hK.out _ _ (KS _ FQ.out) (fun hHeld=>?_)
 clear hK
 try simp only[Act.put,Lw.s1,Lw.s2,Lw.s3]
 refine wpAnyH_ready (rs:=[4]) (by kernel_rfl) (by simp) ?_
 refine AllReadyH.cons rfl (fun K' hK=>?_) AllReadyH.nil
 clear hHeld
 go_simp
 refine(atmost_any sx sl mx ml _).mono ?_
 rintro e w5 ⟨rfl,hb⟩
 have FQ:=Lib.hid (FQ.out.call hb)
 clear hb
 refine hK.out _ _ (KS _ FQ.out) (fun hHeld=>?_)
 clear hK
 try simp only[Act.put,Lw.s1,Lw.s2,Lw.s3]
 by_cases hx:mx≤ml
 ·
  obtain rfl:=YES2.out hx
  rw[decide_eq_true hx]
  clear YES2 NOX
  refine Lw.tK 5 hHeld (h:=?_)
  refine Lw.tK 6 hHeld (h:=?_)
  refine Lw.tK 7 hHeld (hy:=Or.inl ⟨by rfl,by intro w hSw;obtain⟨s0,s1,s2,s3,s4⟩:=hSw;go_simp;try with_reducible rfl⟩) (h:=?_)
  refine Lw.tK 9 hHeld (hy:=Or.inl ⟨by rfl,by intro w hSw;obtain⟨s0,s1,s2,s3,s4⟩:=hSw;go_simp;try with_reducible rfl⟩) (h:=?_)
  refine wpAnyH_ready (rs:=[8]) (by kernel_rfl) (by simp) ?_
  refine AllReadyH.cons rfl (fun K' hK=>?_) AllReadyH.nil
  clear hHeld
  go_simp
  refine(PY.out _).mono ?_
  rintro e w6 ⟨rfl,hb⟩
  have FQ:=Lib.hid (FQ.out.call hb)
  clear hb PY
  refine hK.out _ _ (KS _ FQ.out) (fun hHeld=>?_)
  clear hK
  try simp only[Act.put,Lw.s1,Lw.s2,Lw.s3]
  refine wpAnyH_ready (rs:=[10]) (by kernel_rfl) (by simp) ?_
  refine AllReadyH.cons rfl (fun K' hK=>?_) AllReadyH.nil
  clear hHeld
  go_simp
  refine(atmost_any (sgn dy 86400000000) sl (mag dy 86400000000) ml _).mono ?_
  rintro e w7 ⟨rfl,hb⟩
  have FQ:=Lib.hid (FQ.out.call hb)
  clear hb
  refine hK.out _ _ (KS _ FQ.out) (fun hHeld=>?_)
  clear hK
  try simp only[Act.put,Lw.s1,Lw.s2,Lw.s3]
  refine Lw.tK 11 hHeld (h:=?_)
  refine Lw.tK 12 hHeld (h:=?_)
  refine wpAnyH_done (by kernel_rfl) ?_ _
  clear hHeld
  clear KS
  go_wp2_with fail
  exact bodyPost_ret (results_tmp rfl _ _ _) rfl ⟨rfl,FQ.out.below⟩
 ·
  obtain rfl:=NOX.out hx
  rw[decide_eq_false hx]
  clear YES2 NOX PY
  refine Lw.tK 5 hHeld (h:=?_)
  refine wpAnyH_take (i:=6) (oi:=?oi6x11) (v:=undef) ?hi6x11 (by kernel_rfl) (by kernel_rfl) (by kernel_rfl) ?hq6x11 ?hy6x11 hHeld ?rest6x11
  case hi6x11=>((try simp only[List.getElem?_toArray,List.getElem?_cons_succ,List.getElem?_cons_zero]);(try rfl))
  case hq6x11=>exact fun _ _ _ h=>h
  case hy6x11=>exact Or.inr ⟨by rfl,rfl⟩
  try simp only[Act.put,Lw.s1,Lw.s2,Lw.s3]
  refine wpAnyH_take (i:=7) (oi:=?oi7x12) (v:=undef) ?hi7x12 (by kernel_rfl) (by kernel_rfl) (by kernel_rfl) ?hq7x12 ?hy7x12 hHeld ?rest7x12
  case hi7x12=>((try simp only[List.getElem?_toArray,List.getElem?_cons_succ,List.getElem?_cons_zero]);(try rfl))
  case hq7x12=>exact fun _ _ _ h=>h
  case hy7x12=>exact Or.inr ⟨by rfl,rfl⟩
  try simp only[Act.put,Lw.s1,Lw.s2,Lw.s3]
  refine wpAnyH_take (i:=8) (oi:=?oi8x13) (v:=undef) ?hi8x13 (by kernel_rfl) (by kernel_rfl) (by kernel_rfl) ?hq8x13 ?hy8x13 hHeld ?rest8x13
  case hi8x13=>((try simp only[List.getElem?_toArray,List.getElem?_cons_succ,List.getElem?_cons_zero]);(try rfl))
  case hq8x13=>exact fun _ _ _ h=>h
  case hy8x13=>exact Or.inr ⟨by rfl,rfl⟩
  try simp only[Act.put,Lw.s1,Lw.s2,Lw.s3]
  refine wpAnyH_take (i:=9) (oi:=?oi9x14) (v:=undef) ?hi9x14 (by kernel_rfl) (by kernel_rfl) (by kernel_rfl) ?hq9x14 ?hy9x14 hHeld ?rest9x14
  case hi9x14=>((try simp only[List.getElem?_toArray,List.getElem?_cons_succ,List.getElem?_cons_zero]);(try rfl))
  case hq9x14=>exact fun _ _ _ h=>h
  case hy9x14=>exact Or.inr ⟨by rfl,rfl⟩
  try simp only[Act.put,Lw.s1,Lw.s2,Lw.s3]
  refine wpAnyH_take (i:=10) (oi:=?oi10x15) (v:=undef) ?hi10x15 (by kernel_rfl) (by kernel_rfl) (by kernel_rfl) ?hq10x15 ?hy10x15 hHeld ?rest10x15
  case hi10x15=>((try simp only[List.getElem?_toArray,List.getElem?_cons_succ,List.getElem?_cons_zero]);(try rfl))
  case hq10x15=>exact fun _ _ _ h=>h
  case hy10x15=>exact Or.inr ⟨by rfl,rfl⟩
  try simp only[Act.put,Lw.s1,Lw.s2,Lw.s3]
  refine Lw.tK 11 hHeld (h:=?_)
  refine Lw.tK 12 hHeld (h:=?_)
  refine wpAnyH_done (by kernel_rfl) ?_ _
  clear hHeld
  clear KS
  go_wp2_with fail
  exact bodyPost_ret (results_tmp rfl _ _ _) rfl ⟨rfl,FQ.out.below⟩
end Tw
namespace Tw
open Go.RowKit Lw Tk _root_.Go.Proofs.YtdnogmanbdgadaaGreatDoor.Op Ow

theorem between_any (n c i j k B off:Nat) (u:Rl) (a b d:Ob) (w:World) (hP:PairAt w B off n i j a b) (hQ:PairAt w B off n i k a d) (hu:okR u) :
  Calls Tryz.prog 34 #[ntV (some ⟨B,off,none⟩) n c u, .int .i64 i, .int .i64 j, .int .i64 k] w fun e w'=>e = .returned (.bool (decide (btw u a b d)))∧Below w.heap.size w w':=by
 have AW1:=Lib.hid (fun w' (hb:Below w.heap.size w w')=>away_any n c i j B off u a b w' (hP.below hb))
 have AW2:=Lib.hid (fun w' (hb:Below w.heap.size w w')=>away_any n c i k B off u a d w' (hQ.below hb))
 have SA:=Lib.hid (fun w' (hb:Below w.heap.size w w')=>(hP.below hb).siteA)
 have SD:=Lib.hid (fun w' (hb:Below w.heap.size w w')=>(hQ.below hb).siteB)
 have hd:=hP.dif
 have he:=hQ.dif
 have PL:=Lib.hid (fun w'=>product_any u.off (dT a b) w' (by obtain⟨-, -,⟨h1,h2⟩, -⟩:=hu;omega) (by have:=hd.t0;have:=hd.t1;omega))
 have PX1:=Lib.hid (fun w'=>product_any (dX a d) (dT a b) w' (by have:=he.x0;have:=he.x1;omega) (by have:=hd.t0;have:=hd.t1;omega))
 have PX2:=Lib.hid (fun w'=>product_any (dX a b) (dT a d) w' (by have:=hd.x0;have:=hd.x1;omega) (by have:=he.t0;have:=he.t1;omega))
 have PY1:=Lib.hid (fun w'=>product_any (dY a d) (dT a b) w' (by have:=he.y0;have:=he.y1;omega) (by have:=hd.t0;have:=hd.t1;omega))
 have PY2:=Lib.hid (fun w'=>product_any (dY a b) (dT a d) w' (by have:=hd.y0;have:=hd.y1;omega) (by have:=he.t0;have:=he.t1;omega))
 have MX:=Lib.hid (fun w'=>minus_any (sgn (dX a d) (dT a b)) (sgn (dX a b) (dT a d)) (mag (dX a d) (dT a b)) (mag (dX a b) (dT a d)) w' (mag_lt (by have:=he.x0;have:=he.x1;omega) (by have:=hd.t0;have:=hd.t1;omega)) (mag_lt (by have:=hd.x0;have:=hd.x1;omega) (by have:=he.t0;have:=he.t1;omega)))
 have MY:=Lib.hid (fun w'=>minus_any (sgn (dY a d) (dT a b)) (sgn (dY a b) (dT a d)) (mag (dY a d) (dT a b)) (mag (dY a b) (dT a d)) w' (mag_lt (by have:=he.y0;have:=he.y1;omega) (by have:=hd.t0;have:=hd.t1;omega)) (mag_lt (by have:=hd.y0;have:=hd.y1;omega) (by have:=he.t0;have:=he.t1;omega)))
 rw[minus_is] at MX MY
 have F0:=Lib.hid ((Fr.start w).alloc (ntC (some ⟨B,off,none⟩) n c u) 75)
 have i0:(0:Int)≤(i:Int):=by omega
 have i1:(i:Int)<(n:Int):=by have:=hP.hi;omega
 have j0:(0:Int)≤(j:Int):=by omega
 have j1:(j:Int)<(n:Int):=by have:=hP.hj;omega
 have k0:(0:Int)≤(k:Int):=by omega
 have k1:(k:Int)<(n:Int):=by have:=hQ.hj;omega
 have YES:Hid (d.site=a.site→0<dT a d→dT a d<dT a b→(dX a d*dT a b-dX a b*dT a d).natAbs≤mag u.off (dT a b)→(dY a d*dT a b-dY a b*dT a d).natAbs≤mag u.off (dT a b)→decide (btw u a b d)=true):=Lib.hid (fun h1 h2 h3 h4 h5=>decide_eq_true ⟨h1,h2,h3,h4,h5⟩)
 have NOX:Hid (¬ (dX a d*dT a b-dX a b*dT a d).natAbs≤mag u.off (dT a b)→decide (btw u a b d)=false):=Lib.hid (fun h1=>decide_eq_false (fun h=>h1 h.2.2.2.1))
 have NOY:Hid (¬ (dY a d*dT a b-dY a b*dT a d).natAbs≤mag u.off (dT a b)→decide (btw u a b d)=false):=Lib.hid (fun h1=>decide_eq_false (fun h=>h1 h.2.2.2.2))
 have NOS:Hid (¬ (d.site=a.site∧0<dT a d∧dT a d<dT a b)→decide (btw u a b d)=false):=Lib.hid (fun h1=>decide_eq_false (fun h=>h1 ⟨h.1,h.2.1,h.2.2.1⟩))
 generalize decide (btw u a b d)=R at *
 clear hP hQ hu hd he
 go_enter Tryz.func34,Tryz.ntmps34
 go_wp2_with fail
 refine(AW1.out _ F0.out.below).mono ?_
 rintro e w1 ⟨rfl,hb⟩
 generalize hX1:(dX a d*dT a b-dX a b*dT a d).natAbs=mx at *
 generalize hY1:(dY a d*dT a b-dY a b*dT a d).natAbs=my at *
 clear hX1 hY1
 generalize dX a b=dx at *
 generalize dY a b=dy at *
 generalize dT a b=dt at *
 generalize dX a d=ex at *
 generalize dY a d=ey at *
 generalize dT a d=ds at *
 generalize sgn ex dt=s1 at *
 generalize mag ex dt=m1 at *
 generalize sgn dx ds=s2 at *
 generalize mag dx ds=m2 at *
 generalize sgn ey dt=s3 at *
 generalize mag ey dt=m3 at *
 generalize sgn dy ds=s4 at *
 generalize mag dy ds=m4 at *
 generalize sgn u.off dt=sl at *
 generalize mag u.off dt=ml at *
 have F1:=Lib.hid ((F0.out.call hb).alloc [.int .i64 dx, .int .i64 dy] 112)
 obtain⟨cn0,cn1,cn2,cn3,cn4,cn5⟩:=F1.out.c6 1 rfl
 clear hb AW1 F0
 go_wp2_with fail
 refine(AW2.out _ F1.out.below).mono ?_
 rintro e w2 ⟨rfl,hb⟩
 have F2:=Lib.hid ((F1.out.call hb).alloc [.int .i64 ex, .int .i64 ey] 112)
 clear cn0 cn1 cn2 cn3 cn4 cn5
 obtain⟨cn0,cn1,cn2,cn3,cn4,cn5⟩:=F2.out.c6 2 rfl
 have sa:=SA.out _ F2.out.below
 have sd:=SD.out _ F2.out.below
 clear hb AW2 F1
 go_wp2_with fail
 by_cases hs:d.site=a.site
 rotate_left
 ·have es:=site_ne hs
  obtain rfl:=NOS.out (fun h=>hs h.1)
  clear YES NOX NOY NOS PL PX1 PX2 PY1 PY2 MX MY SA SD
  go_quiet (fail)
  go_wp2_with fail
  exact bodyPost_ret (results_tmp rfl _ _ _) rfl ⟨rfl,drewN_below2 F2.out.below _⟩
 have es:=site_eq hs
 by_cases h1:ds≤0
 ·obtain rfl:=NOS.out (fun h=>by omega)
  clear YES NOX NOY NOS PL PX1 PX2 PY1 PY2 MX MY SA SD
  go_quiet (fail)
  go_wp2_with fail
  exact bodyPost_ret (results_tmp rfl _ _ _) rfl ⟨rfl,drewN_below2 F2.out.below _⟩
 by_cases h2:dt≤ds
 ·obtain rfl:=NOS.out (fun h=>by omega)
  clear YES NOX NOY NOS PL PX1 PX2 PY1 PY2 MX MY SA SD
  go_quiet (fail)
  go_wp2_with fail
  exact bodyPost_ret (results_tmp rfl _ _ _) rfl ⟨rfl,drewN_below2 F2.out.below _⟩
 have YES2:=Lib.hid (YES.out hs (by omega) (by omega))
 clear NOS SA SD YES
 go_quiet (fail)
 have F3:=Lib.hid (F2.out.drewN nq)
 clear F2 sa sd es cn0 cn1 cn2 cn3 cn4 cn5
 obtain⟨cn0,cn1,cn2,cn3,cn4,cn5⟩:=F3.out.c6 2 rfl
 go_wp2_with fail
 refine(PL.out _).mono ?_
 rintro e w3 ⟨rfl,hb⟩
 have F4:=Lib.hid ((F3.out.call hb).alloc (sgC sl ml) 116)
 clear hb PL F3 cn0 cn1 cn2 cn3 cn4 cn5
 go_wp2_with fail
 generalize w3.alloc (.cells (sgC sl ml).toArray 116)=wa at *
 have KS:=fun w' (h:Fr w [(w3.heap.size,sgC sl ml),(w2.heap.size,[.int .i64 ex, .int .i64 ey]),(w1.heap.size,[.int .i64 dx, .int .i64 dy]),(w.heap.size,ntC (some ⟨B,off,none⟩) n c u)] w')=>(show w'.cell? ⟨w2.heap.size,0,none⟩=some (.int .i64 ex)∧w'.cell? ⟨w2.heap.size,1,none⟩=some (.int .i64 ey)∧w'.cell? ⟨w1.heap.size,0,none⟩=some (.int .i64 dx)∧w'.cell? ⟨w1.heap.size,1,none⟩=some (.int .i64 dy)∧w'.cell? ⟨w3.heap.size,0,none⟩=some (.bool sl)∧w'.cell? ⟨w3.heap.size,1,none⟩=some (.int .u64 ((ml:Int)/18446744073709551616))∧w'.cell? ⟨w3.heap.size,2,none⟩=some (.int .u64 ((ml:Int) % 18446744073709551616)) from⟨h.cell 1 0 rfl rfl,h.cell 1 1 rfl rfl,h.cell 2 0 rfl rfl,h.cell 2 1 rfl rfl,h.cell 0 0 rfl rfl,h.cell 0 1 rfl rfl,h.cell 0 2 rfl rfl⟩)
 go_loopw [56] (fun z wr=>((z = .int .i64 0)∨(z = .int .i64 1∧mx≤ml)∨(z = .int .i64 2∧mx≤ml∧my≤ml))∧Hid (Fr w [(w3.heap.size,sgC sl ml),(w2.heap.size,[.int .i64 ex, .int .i64 ey]),(w1.heap.size,[.int .i64 dx, .int .i64 dy]),(w.heap.size,ntC (some ⟨B,off,none⟩) n c u)] wr)) (fun z _=>(2-intOf z).toNat)
 case atStart=>exact⟨Or.inl rfl,F4⟩
 case round =>
  clear F4
  obtain⟨hz,FQ⟩:=hrel
  rcases hz with rfl|⟨rfl,hx⟩|⟨rfl,hx,hy⟩
  ·
   go_wp2_with fail
   refine wp_region_held_drew (S:=fun w'=>w'.cell? ⟨w2.heap.size,0,none⟩=some (.int .i64 ex)∧w'.cell? ⟨w2.heap.size,1,none⟩=some (.int .i64 ey)∧w'.cell? ⟨w1.heap.size,0,none⟩=some (.int .i64 dx)∧w'.cell? ⟨w1.heap.size,1,none⟩=some (.int .i64 dy)∧w'.cell? ⟨w3.heap.size,0,none⟩=some (.bool sl)∧w'.cell? ⟨w3.heap.size,1,none⟩=some (.int .u64 ((ml:Int)/18446744073709551616))∧w'.cell? ⟨w3.heap.size,2,none⟩=some (.int .u64 ((ml:Int) % 18446744073709551616))) (by kernel_rfl) (KS _ FQ.out.drew) (fun hHeld=>?_)
   have FQ:=Lib.hid FQ.out.drew
   refine Lw.tK 0 hHeld (h:=?_)
   refine Lw.tK 1 hHeld (h:=?_)
   refine Lw.tK 2 hHeld (hy:=Or.inl ⟨by rfl,by intro w hSw;obtain⟨s0,s1,s2,s3,s4,s5,s6⟩:=hSw;go_simp;try with_reducible rfl⟩) (h:=?_)
   refine Lw.tK 3 hHeld (h:=?_)
   refine Lw.tK 5 hHeld (h:=?_)
   refine Lw.tK 6 hHeld (h:=?_)
   refine Lw.tK 7 hHeld (hy:=Or.inl ⟨by rfl,by intro w hSw;obtain⟨s0,s1,s2,s3,s4,s5,s6⟩:=hSw;go_simp;try with_reducible rfl⟩) (h:=?_)
   refine Lw.tK 8 hHeld (h:=?_)
   refine Lw.tK 11 hHeld (hy:=Or.inl ⟨by rfl,by intro w hSw;obtain⟨s0,s1,s2,s3,s4,s5,s6⟩:=hSw;go_simp;try with_reducible rfl⟩) (h:=?_)
   refine wpAnyH_ready (rs:=[4]) (by kernel_rfl) (by simp) ?_
   refine AllReadyH.cons rfl (fun K' hK=>?_) AllReadyH.nil
   clear hHeld
   go_simp
   refine(PX1.out _).mono ?_
   rintro e w4 ⟨rfl,hb⟩
   have FQ:=Lib.hid (FQ.out.call hb)
   clear hb
   refine hK.out _ _ (KS _ FQ.out) (fun hHeld=>?_)
   clear hK
   try simp only[Act.put,Lw.s1,Lw.s2,Lw.s3]
   refine wpAnyH_ready (rs:=[9]) (by kernel_rfl) (by simp) ?_
   refine AllReadyH.cons rfl (fun K' hK=>?_) AllReadyH.nil
   clear hHeld
   go_simp
   refine(PX2.out _).mono ?_
   rintro e w5 ⟨rfl,hb⟩
   have FQ:=Lib.hid (FQ.out.call hb)
   clear hb
   refine hK.out _ _ (KS _ FQ.out) (fun hHeld=>?_)
   clear hK
   try simp only[Act.put,Lw.s1,Lw.s2,Lw.s3]
   refine wpAnyH_ready (rs:=[10]) (by kernel_rfl) (by simp) ?_
   refine AllReadyH.cons rfl (fun K' hK=>?_) AllReadyH.nil
   clear hHeld
   go_simp
   refine(MX.out _).mono ?_
   rintro e w6 ⟨rfl,hb⟩
   have FQ:=Lib.hid (FQ.out.call hb)
   clear hb
   refine hK.out _ _ (KS _ FQ.out) (fun hHeld=>?_)
   clear hK
   try simp only[Act.put,Lw.s1,Lw.s2,Lw.s3]
   refine wpAnyH_ready (rs:=[12]) (by kernel_rfl) (by simp) ?_
   refine AllReadyH.cons rfl (fun K' hK=>?_) AllReadyH.nil
   clear hHeld
   go_simp
   refine(atmost_any false sl mx ml _).mono ?_
   rintro e w7 ⟨rfl,hb⟩
   have FQ:=Lib.hid (FQ.out.call hb)
   clear hb
   refine hK.out _ _ (KS _ FQ.out) (fun hHeld=>?_)
   clear hK
   try simp only[Act.put,Lw.s1,Lw.s2,Lw.s3]
   refine Lw.tK 13 hHeld (h:=?_)
   refine wpAnyH_done (by kernel_rfl) ?_ _
   clear hHeld
   by_cases hc:mx≤ml
   ·
    rw[decide_eq_true hc]
    go_wp2_with fail
    go_roundw
    case rel=>exact⟨Or.inr (Or.inl ⟨rfl,hc⟩),FQ⟩
    case measure=>simp[intOf]
   ·
    rw[decide_eq_false hc]
    obtain rfl:=NOX.out hc
    clear YES2 NOX NOY
    go_wp2_with fail
    exact bodyPost_ret (results_tmp rfl _ _ _) rfl ⟨rfl,FQ.out.below⟩
  ·
   go_wp2_with fail
   refine wp_region_held_drew (S:=fun w'=>w'.cell? ⟨w2.heap.size,0,none⟩=some (.int .i64 ex)∧w'.cell? ⟨w2.heap.size,1,none⟩=some (.int .i64 ey)∧w'.cell? ⟨w1.heap.size,0,none⟩=some (.int .i64 dx)∧w'.cell? ⟨w1.heap.size,1,none⟩=some (.int .i64 dy)∧w'.cell? ⟨w3.heap.size,0,none⟩=some (.bool sl)∧w'.cell? ⟨w3.heap.size,1,none⟩=some (.int .u64 ((ml:Int)/18446744073709551616))∧w'.cell? ⟨w3.heap.size,2,none⟩=some (.int .u64 ((ml:Int) % 18446744073709551616))) (by kernel_rfl) (KS _ FQ.out.drew) (fun hHeld=>?_)
   have FQ:=Lib.hid FQ.out.drew
   refine Lw.tK 0 hHeld (h:=?_)
   refine Lw.tK 1 hHeld (h:=?_)
   refine Lw.tK 2 hHeld (hy:=Or.inl ⟨by rfl,by intro w hSw;obtain⟨s0,s1,s2,s3,s4,s5,s6⟩:=hSw;go_simp;try with_reducible rfl⟩) (h:=?_)
   refine Lw.tK 3 hHeld (h:=?_)
   refine Lw.tK 5 hHeld (h:=?_)
   refine Lw.tK 6 hHeld (h:=?_)
   refine Lw.tK 7 hHeld (hy:=Or.inl ⟨by rfl,by intro w hSw;obtain⟨s0,s1,s2,s3,s4,s5,s6⟩:=hSw;go_simp;try with_reducible rfl⟩) (h:=?_)
   refine Lw.tK 8 hHeld (h:=?_)
   refine Lw.tK 11 hHeld (hy:=Or.inl ⟨by rfl,by intro w hSw;obtain⟨s0,s1,s2,s3,s4,s5,s6⟩:=hSw;go_simp;try with_reducible rfl⟩) (h:=?_)
   refine wpAnyH_ready (rs:=[4]) (by kernel_rfl) (by simp) ?_
   refine AllReadyH.cons rfl (fun K' hK=>?_) AllReadyH.nil
   clear hHeld
   go_simp
   refine(PY1.out _).mono ?_
   rintro e w4 ⟨rfl,hb⟩
   have FQ:=Lib.hid (FQ.out.call hb)
   clear hb
   refine hK.out _ _ (KS _ FQ.out) (fun hHeld=>?_)
   clear hK
   try simp only[Act.put,Lw.s1,Lw.s2,Lw.s3]
   refine wpAnyH_ready (rs:=[9]) (by kernel_rfl) (by simp) ?_
   refine AllReadyH.cons rfl (fun K' hK=>?_) AllReadyH.nil
   clear hHeld
   go_simp
   refine(PY2.out _).mono ?_
   rintro e w5 ⟨rfl,hb⟩
   have FQ:=Lib.hid (FQ.out.call hb)
   clear hb
   refine hK.out _ _ (KS _ FQ.out) (fun hHeld=>?_)
   clear hK
   try simp only[Act.put,Lw.s1,Lw.s2,Lw.s3]
   refine wpAnyH_ready (rs:=[10]) (by kernel_rfl) (by simp) ?_
   refine AllReadyH.cons rfl (fun K' hK=>?_) AllReadyH.nil
   clear hHeld
   go_simp
   refine(MY.out _).mono ?_
   rintro e w6 ⟨rfl,hb⟩
   have FQ:=Lib.hid (FQ.out.call hb)
   clear hb
   refine hK.out _ _ (KS _ FQ.out) (fun hHeld=>?_)
   clear hK
   try simp only[Act.put,Lw.s1,Lw.s2,Lw.s3]
   refine wpAnyH_ready (rs:=[12]) (by kernel_rfl) (by simp) ?_
   refine AllReadyH.cons rfl (fun K' hK=>?_) AllReadyH.nil
   clear hHeld
   go_simp
   refine(atmost_any false sl my ml _).mono ?_
   rintro e w7 ⟨rfl,hb⟩
   have FQ:=Lib.hid (FQ.out.call hb)
   clear hb
   refine hK.out _ _ (KS _ FQ.out) (fun hHeld=>?_)
   clear hK
   try simp only[Act.put,Lw.s1,Lw.s2,Lw.s3]
   refine Lw.tK 13 hHeld (h:=?_)
   refine wpAnyH_done (by kernel_rfl) ?_ _
   clear hHeld
   by_cases hc:my≤ml
   ·
    rw[decide_eq_true hc]
    go_wp2_with fail
    go_roundw
    case rel=>exact⟨Or.inr (Or.inr ⟨rfl,hx,hc⟩),FQ⟩
    case measure=>simp[intOf]
   ·
    rw[decide_eq_false hc]
    obtain rfl:=NOY.out hc
    clear YES2 NOX NOY
    go_wp2_with fail
    exact bodyPost_ret (results_tmp rfl _ _ _) rfl ⟨rfl,FQ.out.below⟩
  ·
   obtain rfl:=YES2.out hx hy
   clear YES2 NOX NOY KS
   go_wp2_with fail
   exact bodyPost_ret (results_tmp rfl _ _ _) rfl ⟨rfl,FQ.out.below⟩
end Tw
namespace Tw
open Go.RowKit Lw Tk _root_.Go.Proofs.YtdnogmanbdgadaaGreatDoor.Op Ow

def allT (l:List Ob):Int:=if 200<l.length then 4 else if ∀ o∈l,okO o then 0 else 8
theorem allT_zero {l:List Ob} (h:l.length≤200) (g:∀ o∈l,okO o):allT l=0:=by unfold allT;rw[if_neg (by omega),if_pos g]
theorem allT_many {l:List Ob} (h:200<l.length):allT l=4:=by unfold allT;rw[if_pos h]
theorem allT_bad {l:List Ob} {i:Nat} (h:l.length≤200) (hi:i<l.length) (g:¬ okO l[i]):allT l=8:=by
 unfold allT;rw[if_neg (by omega),if_neg (fun k=>g (k _ (List.getElem_mem hi)))]
theorem allT_ok {l:List Ob} (h:allT l=0):l.length≤200 ∧ ∀ o∈l,okO o:=by
 unfold allT at h
 by_cases c:200<l.length
 ·rw[if_pos c] at h;cases h
 ·rw[if_neg c] at h
  by_cases d:∀ o∈l,okO o
  ·exact⟨by omega,d⟩
  ·rw[if_neg d] at h;cases h
def stT (l:List Ob) (u:Rl):Int:=if allT l=0 then ckR u else allT l
theorem stT_ok {l:List Ob} {u:Rl} (h:stT l u=0):l.length≤200∧(∀ o∈l,okO o)∧okR u:=by
 unfold stT at h
 by_cases c:allT l=0
 ·rw[if_pos c] at h
  refine⟨(allT_ok c).1,(allT_ok c).2,?_⟩
  unfold ckR at h
  by_cases d:okR u
  ·exact d
  ·rw[if_neg d] at h;cases h
 ·rw[if_neg c] at h;exact absurd h c
theorem spots_any (x:Option Addr) (cap:Nat) (l:List Ob) (w:World) (hE:ES w) (hl:SlA w x l) (hm:l.length≤1000000) (hb:OBs l) :
  Calls Tryz.prog 45 #[.slice x l.length cap] w fun e w'=>e = .returned (.int .i64 (allT l))∧Below w.heap.size w w':=by
 have HL:=Lib.hid (fun w' (h:Below w.heap.size w w')=>hl.below h)
 have HE:=Lib.hid (fun w' (h:Below w.heap.size w w')=>hE.below h)
 have CK:=Lib.hid (fun i (h:i<l.length) w' (g:ES w')=>check_any (l[i]'h) w' g (hb i h).t0 (hb i h).t1 (hb i h).b0 (hb i h).b1 (hb i h).n1 (hb i h).n2)
 obtain⟨n,hnl⟩:∃ n,l.length=n:=⟨_,rfl⟩
 have GM:Hid (200<n→allT l=4):=Lib.hid (fun h=>allT_many (by omega))
 have GB:Hid (n≤200 → ∀ i (h:i<l.length),¬ okO (l[i]'h)→allT l=8):=Lib.hid (fun a i h g=>allT_bad (by omega) h g)
 have GZ:Hid (n≤200→(∀ i (h:i<l.length),okO (l[i]'h))→allT l=0):=Lib.hid (fun a g=>allT_zero (by omega) (fun o ho=>by
  obtain⟨i,hi,rfl⟩:=List.getElem_of_mem ho
  exact g i hi))
 generalize allT l=K at *
 rw[hnl] at hm ⊢
 have NL:=Lib.hid hnl
 clear hl hE hb hnl
 by_cases h5:200<n
 ·have h5':(200:Int)<(n:Int):=by omega
  obtain rfl:=GM.out h5
  clear CK GM GB GZ HL HE NL
  go_enter Tryz.func45,Tryz.ntmps45
  go_wp2_with fail
  go_ret
  exact⟨rfl,Below.refl _ _⟩
 ·have h5':¬ (200:Int)<(n:Int):=by omega
  clear GM
  go_enter Tryz.func45,Tryz.ntmps45
  go_wp2_with fail
  go_loopw [11] (fun i wr=>∃ k:Nat,k≤n∧i = .int .i64 k∧Hid (∀ j (h:j<l.length),j<k→okO (l[j]'h))∧Hid (Below w.heap.size w wr)) (fun i _=>n-(intOf i).toNat)
  case atStart=>exact⟨0,Nat.zero_le _,rfl,Lib.hid (fun j _ h=>by omega),Lib.hid (Below.refl _ _)⟩
  case round =>
   obtain⟨k,hk,rfl,D,B⟩:=hrel
   by_cases hlt:k<n
   ·have hkl:k<l.length:=by rw[NL.out];exact hlt
    obtain⟨b,off,rfl,lt,row⟩:=(HL.out _ B.out).get hkl
    have R:=Lib.hid (row k hkl)
    have CKk:=Lib.hid (CK.out k hkl)
    have GBk:=Lib.hid (fun (g:¬ okO (l[k]'hkl))=>GB.out (by omega) k hkl g)
    have DK:=Lib.hid (fun (g:okO (l[k]'hkl))=>(show ∀ j (h:j<l.length),j<k+1→okO (l[j]'h) from fun j h hj=>by
     by_cases e:j=k
     ·subst e;exact g
     ·exact D.out j h (by omega)))
    have i1:(k:Int)<(n:Int):=by omega
    clear D GB GZ row lt CK
    generalize l[k]'hkl=o at *
    have X0:=Lib.hid (Box.new wr o)
    have B1:=Lib.hid (B.out.alloc B.out.size (.cells (obsC o).toArray 31))
    have E1:=Lib.hid (HE.out _ B1.out)
    clear B
    go_wp2_with (first|(refine wpList_store_new rfl _ (.tmp 4) (.tmp 14) rfl _ _ rfl rfl info8 rfl ?_ ?_;simp[Value.oneCell'])|(refine wpList_load_mid rfl _ (.tmp 13) rfl b (off+k*8) rfl (obsC o) _ R.out Tryz.underlying31 rfl info8 ?_)|(refine wpList_load_mid rfl _ (.tmp 4) rfl wr.heap.size 0 rfl (obsC o) _ X0.out.row Tryz.underlying31 rfl info8 ?_))
    refine(CKk.out _ E1.out).mono ?_
    rintro e w2 ⟨rfl,hb2⟩
    have B2:=Lib.hid (below_then B1.out hb2)
    clear hb2 B1 E1 CKk X0 R
    by_cases ok:okO o
    ·rw[show checkC o=0 from if_pos ok]
     have D2:=Lib.hid (DK.out ok)
     clear DK GBk
     go_wp2_with fail
     go_roundw
     case rel=>exact⟨k+1,by omega,by go_num,D2,B2⟩
     case measure=>simp[intOf];omega
    ·rw[show checkC o=8 from if_neg ok]
     obtain rfl:=GBk.out ok
     clear DK
     go_wp2_with fail
     go_ret
     exact⟨rfl,B2.out⟩
   ·obtain rfl:k=n:=by omega
    obtain rfl:=GZ.out (by omega) (fun i hi=>D.out i hi (by have:=NL.out;omega))
    clear GZ D GB HL CK
    go_wp2_with fail
    go_ret
    exact⟨rfl,B.out⟩
theorem start_any (x:Option Addr) (cap:Nat) (l:List Ob) (u:Rl) (w:World) (hE:ES w) (hl:SlA w x l) (hm:l.length≤1000000) (hb:OBs l) :
  Calls Tryz.prog 31 #[.slice x l.length cap,rlV u] w fun e w'=>e = .returned (.int .i64 (stT l u))∧Below w.heap.size w w':=by
 have F0:=Lib.hid ((Fr.start w).alloc (rlC u) 24)
 have CK:=Lib.hid (fun w' (h:Below w.heap.size w w')=>spots_any x cap l w' (hE.below h) (hl.below h) hm hb)
 have RU:=Lib.hid (fun w'=>rule_any u w')
 have E0:Hid (allT l=0→stT l u=ckR u):=Lib.hid (fun h=>by unfold stT;rw[if_pos h])
 have E1:Hid (¬ allT l=0→stT l u=allT l):=Lib.hid (fun h=>by unfold stT;rw[if_neg h])
 generalize stT l u=R at *
 generalize allT l=c at *
 clear hl hm hb hE
 generalize l.length=n at *
 go_enter Tryz.func31,Tryz.ntmps31
 go_wp2_with fail
 refine(CK.out _ F0.out.below).mono ?_
 rintro e w1 ⟨rfl,hb⟩
 have F1:=F0.out.call hb
 obtain⟨c0,c1,c2,c3,c4⟩:=F1.c5 0 rfl
 have F1:=Lib.hid F1
 clear hb CK F0
 by_cases hc:c=0
 ·subst hc
  obtain rfl:=E0.out rfl
  clear E0 E1
  go_wp2_with fail
  refine(RU.out _).mono ?_
  rintro e w2 ⟨rfl,hb⟩
  have F2:=Lib.hid (F1.out.call hb)
  clear hb
  go_wp2_with fail
  exact bodyPost_ret (results_tmp rfl _ _ _) rfl ⟨rfl,F2.out.below⟩
 ·obtain rfl:=E1.out hc
  clear E0 E1
  go_wp2_with fail
  exact bodyPost_ret (results_tmp rfl _ _ _) rfl ⟨rfl,F1.out.below⟩
end Tw
namespace Tw
open Go.RowKit Lw Ow Tk Go.Proofs.YtdnogmanbdgadaaGreatDoor.Ap Go.Proofs.YtdnogmanbdgadaaGreatDoor.Op Go.Proofs.YtdnogmanbdgadaaGreatDoor.Mp Go.Proofs.YtdnogmanbdgadaaGreatDoor.Mw

def greatT (l:List Ob) (most:Int):Bool:=decide ((∃ o∈l,longP o)∨(most<l.length∧(l.length:Int)≤200)∨210<(l.length:Int))
theorem greatT_yes {l:List Ob} {most:Int} {i:Nat} (h:i<l.length) (g:longP l[i]):greatT l most=true:=decide_eq_true (Or.inl ⟨_,List.getElem_mem h,g⟩)
theorem greatT_no {l:List Ob} {most:Int} (h:∀ i (hi:i<l.length),¬ longP (l[i]'hi)):greatT l most=decide ((most<l.length∧(l.length:Int)≤200)∨210<(l.length:Int)):=by
 refine decide_eq_decide.2 ⟨fun g=>?_,fun g=>Or.inr g⟩
 rcases g with⟨o,ho,g⟩|g
 ·obtain⟨i,hi,rfl⟩:=List.getElem_of_mem ho
  exact absurd g (h i hi)
 ·exact g
theorem tgreat_wide (b off cap:Nat) (l:List Ob) (most:Int) (w:World) (hl:ObsAt w b off l) (hm:l.length≤9223372036854775807) (hn:∀ o∈l,o.name.size≤maxLen∧o.site.size≤maxLen) :
  Calls Tryz.prog 9 #[.slice (some ⟨b,off,none⟩) l.length cap, .int .i64 most] w fun e w'=>e = .returned (.bool (greatT l most))∧w=w':=by
 have HL:=Lib.hid hl
 have HN:=Lib.hid hn
 have GY:=Lib.hid (fun i (h:i<l.length) (g:longP l[i])=>greatT_yes (most:=most) h g)
 obtain⟨n,hnl⟩:∃ n,l.length=n:=⟨_,rfl⟩
 have GN:Hid ((∀ i (hi:i<l.length),¬ longP (l[i]'hi))→greatT l most=decide ((most<(n:Int)∧(n:Int)≤200)∨210<(n:Int))):=Lib.hid fun h=>by rw[greatT_no h,hnl]
 clear hl hn
 generalize greatT l most=gb at *
 rw[hnl] at hm ⊢
 have NL:=Lib.hid hnl
 clear hnl
 go_enter Tryz.func9,Tryz.ntmps9
 go_wp2_with fail
 go_loop [5] (fun i=>∃ k:Nat,k≤n∧i = .int .i64 k∧Hid (∀ j (h:j<l.length),j<k→¬ longP (l[j]'h))) (fun i=>n-(intOf i).toNat)
 case atStart=>exact⟨0,Nat.zero_le _,rfl,Lib.hid (fun j _ h=>by omega)⟩
 case round =>
  obtain⟨k,hk,rfl,D⟩:=hrel
  by_cases hlt:k<n
  ·have hkl:k<l.length:=by rw[NL.out];exact hlt
   have r:=HL.out k hkl
   have q0:=r 0 _ rfl
   have q1:=r 1 _ rfl
   rw[Nat.add_zero] at q0
   have i1:(k:Int)<(n:Int):=by omega
   have GYk:=Lib.hid (GY.out k hkl)
   have DK:=Lib.hid (fun (g:¬ longP (l[k]'hkl))=>(show ∀ j (h:j<l.length),j<k+1→¬ longP (l[j]'h) from fun j h hj=>by
    by_cases e:j=k
    ·subst e;exact g
    ·exact D.out j h (by omega)))
   have zz:=HN.out _ (List.getElem_mem hkl)
   unfold longP maxLen at *
   clear r D
   generalize (l[k]'hkl).name=nm at *
   generalize (l[k]'hkl).site=st at *
   obtain⟨z1,z2⟩:=zz
   by_cases g1:100<nm.size
   ·have e:=Lib.hid (GYk.out (Or.inl g1))
    have g1':(100:Int)<nm.size:=by omega
    clear GYk DK
    go_wp2_with fail
    go_ret
    exact⟨by rw[e.out];rfl,rfl⟩
   ·have g1':¬ (100:Int)<nm.size:=by omega
    by_cases g2:100<st.size
    ·have e:=Lib.hid (GYk.out (Or.inr g2))
     have g2':(100:Int)<st.size:=by omega
     clear GYk DK
     go_wp2_with fail
     go_ret
     exact⟨by rw[e.out];rfl,rfl⟩
    ·have g2':¬ (100:Int)<st.size:=by omega
     have D2:=Lib.hid (DK.out (fun h=>h.elim g1 g2))
     clear GYk DK
     go_wp2_with fail
     go_round
     case rel=>exact⟨k+1,by omega,by go_num,D2⟩
     case measure=>simp[intOf];omega
  ·obtain rfl:k=n:=by omega
   have E:=Lib.hid (GN.out (fun i hi=>D.out i hi (by have:=NL.out;omega)))
   clear GN D GY HN
   by_cases c1:most<(k:Int)
   ·by_cases c2:(k:Int)≤200
    ·rw[decide_eq_true (Or.inl ⟨c1,c2⟩)] at E
     go_wp2_with fail
     go_ret
     exact⟨by rw[E.out];rfl,rfl⟩
    ·by_cases c3:210<(k:Int)
     ·rw[decide_eq_true (Or.inr c3)] at E
      go_wp2_with fail
      go_ret
      exact⟨by rw[E.out];rfl,rfl⟩
     ·rw[decide_eq_false (fun h=>h.elim (fun x=>c2 x.2) c3)] at E
      go_wp2_with fail
      go_ret
      exact⟨by rw[E.out];rfl,rfl⟩
   ·by_cases c3:210<(k:Int)
    ·rw[decide_eq_true (Or.inr c3)] at E
     go_wp2_with fail
     go_ret
     exact⟨by rw[E.out];rfl,rfl⟩
    ·rw[decide_eq_false (fun h=>h.elim (fun x=>c1 x.1) c3)] at E
     go_wp2_with fail
     go_ret
     exact⟨by rw[E.out];rfl,rfl⟩
theorem tgreat_nil (x:Option Addr) (cap:Nat) (w:World):Calls Tryz.prog 9 #[.slice x 0 cap, .int .i64 9] w fun e w'=>e = .returned (.bool false)∧w=w':=by
 go_enter Tryz.func9,Tryz.ntmps9
 go_wp2_with fail
 go_loop [5] (fun i=>i = .int .i64 0) (fun i=>0-(intOf i).toNat)
 case atStart=>exact rfl
 case round =>
  obtain rfl:=hrel
  go_wp2_with fail
  go_ret
  exact⟨rfl,rfl⟩
theorem tgreat_sl (x:Option Addr) (cap:Nat) (l:List Ob) (w:World) (hx:SlA w x l) (hm:l.length≤9223372036854775807) (hb:OBs l) :
  Calls Tryz.prog 9 #[.slice x l.length cap, .int .i64 9] w fun e w'=>e = .returned (.bool (greatT l 9))∧w=w':=by
 rcases hx with rfl|⟨b,off,rfl,_,h⟩
 ·refine(tgreat_nil x cap w).mono ?_
  rintro e w' ⟨rfl,rfl⟩
  exact⟨rfl,rfl⟩
 ·exact tgreat_wide b off cap l 9 w h hm (fun o ho=>by
   obtain⟨i,hi,rfl⟩:=List.getElem_of_mem ho
   exact⟨(hb i hi).n1,(hb i hi).n2⟩)
end Tw
end Go.Proofs.YtdnogmanbdgadaaGreatDoor
