/-
  Lemmas and walks, texts joined: QMin, QMov, QMt.
-/
import Derived.Test.YtdnogmanbdgadaaGreatDoorTb26
import Derived.Test.YtdnogmanbdgadaaGreatDoorTb37
import Derived.Test.YtdnogmanbdgadaaGreatDoorTb35
import Derived.Test.YtdnogmanbdgadaaGreatDoorTb39
set_option linter.unusedSimpArgs false
set_option linter.unusedVariables false
set_option maxRecDepth 100000
set_option maxHeartbeats 40000000
namespace Go.Proofs.YtdnogmanbdgadaaGreatDoor
namespace Wd
open Go.RowKit Lw Tw

theorem min_any (V:Value) (l:List Int) (w:World) (hV:I6 w V l) (h0:0<l.length) (hn:l.length≤1000) :
  Calls Tryz.prog 46 #[V] w fun e w'=>e = .returned (.int .i64 (Mo.lo l))∧w=w':=by
 obtain⟨A,cap,rfl,hR⟩:=hV
 have HR:=Lib.hid hR
 obtain⟨g,rfl, -,c0⟩:=rows_cell1 hR h0
 obtain⟨n,hln⟩:∃ n,n=l.length:=⟨_,rfl⟩
 rw[← hln] at h0 hn ⊢
 have HN:=Lib.hid hln
 have e0:l[0]'(by omega)=Mo.loT l 1:=(Mo.loT_one (by omega)).symm
 rw[e0] at c0
 have E:=Lib.hid (Mo.loT_all l)
 rw[← hln] at E
 have i0:(0:Int)<(n:Int):=by omega
 have i1:¬ (n:Int)<1:=by omega
 clear hR hln e0
 go_enter Tryz.func46,Tryz.ntmps46
 go_wp2_with fail
 clear c0
 go_loopw [3,4] (fun x i wr=>∃ k:Nat,1≤k∧k≤n∧i = .int .i64 k∧x = .int .i64 (Mo.loT l k)∧wr=w) (fun _ i _=>n-(intOf i).toNat)
 case atStart=>exact⟨1,by omega,by omega,rfl,rfl,rfl⟩
 case round =>
  obtain⟨k,hk1,hk,rfl,rfl,rfl⟩:=hrel
  by_cases hlt:k<n
  ·have hkl:k<l.length:=by rw[← HN.out];exact hlt
   obtain⟨g',e, -,cA⟩:=rows_cell1 HR.out hkl
   cases e
   have j1:(k:Int)<(n:Int):=by omega
   have S:=Lib.hid (Mo.loT_succ hkl hk1)
   generalize l[k]=x at *
   clear hkl HR HN
   go_wp2_with fail
   rw[← S.out]
   go_roundw
   case rel=>exact⟨k+1,by omega,by omega,by simp,rfl,trivial⟩
   case measure=>simp[intOf];omega
  ·obtain rfl:k=n:=by omega
   clear HR HN
   go_wp2_with fail
   exact bodyPost_ret (results_tmp rfl _ _ _) rfl ⟨by rw[E.out];rfl,rfl⟩
theorem max_any (V:Value) (l:List Int) (w:World) (hV:I6 w V l) (h0:0<l.length) (hn:l.length≤1000) :
  Calls Tryz.prog 47 #[V] w fun e w'=>e = .returned (.int .i64 (Mo.hi l))∧w=w':=by
 obtain⟨A,cap,rfl,hR⟩:=hV
 have HR:=Lib.hid hR
 obtain⟨g,rfl, -,c0⟩:=rows_cell1 hR h0
 obtain⟨n,hln⟩:∃ n,n=l.length:=⟨_,rfl⟩
 rw[← hln] at h0 hn ⊢
 have HN:=Lib.hid hln
 have e0:l[0]'(by omega)=Mo.hiT l 1:=(Mo.hiT_one (by omega)).symm
 rw[e0] at c0
 have E:=Lib.hid (Mo.hiT_all l)
 rw[← hln] at E
 have i0:(0:Int)<(n:Int):=by omega
 have i1:¬ (n:Int)<1:=by omega
 clear hR hln e0
 go_enter Tryz.func47,Tryz.ntmps47
 go_wp2_with fail
 clear c0
 go_loopw [3,4] (fun x i wr=>∃ k:Nat,1≤k∧k≤n∧i = .int .i64 k∧x = .int .i64 (Mo.hiT l k)∧wr=w) (fun _ i _=>n-(intOf i).toNat)
 case atStart=>exact⟨1,by omega,by omega,rfl,rfl,rfl⟩
 case round =>
  obtain⟨k,hk1,hk,rfl,rfl,rfl⟩:=hrel
  by_cases hlt:k<n
  ·have hkl:k<l.length:=by rw[← HN.out];exact hlt
   obtain⟨g',e, -,cA⟩:=rows_cell1 HR.out hkl
   cases e
   have j1:(k:Int)<(n:Int):=by omega
   have S:=Lib.hid (Mo.hiT_succ hkl hk1)
   generalize l[k]=x at *
   clear hkl HR HN
   go_wp2_with fail
   rw[← S.out]
   go_roundw
   case rel=>exact⟨k+1,by omega,by omega,by simp,rfl,trivial⟩
   case measure=>simp[intOf];omega
  ·obtain rfl:k=n:=by omega
   clear HR HN
   go_wp2_with fail
   exact bodyPost_ret (results_tmp rfl _ _ _) rfl ⟨by rw[E.out];rfl,rfl⟩
end Wd
namespace Wd
open Go.RowKit Lw Tw

abbrev atC (s:ByteArray) (m:Mo.Mv):List Value:=[.string s, .int .i64 m.t, .int .i64 m.ra, .int .i64 m.dec, .int .i64 m.dra, .int .i64 m.ddec]
abbrev atV (s:ByteArray) (m:Mo.Mv):Value:=.agg (atC s m).toArray
theorem inrange_any (s:ByteArray) (m:Mo.Mv) (w:World):Calls Tryz.prog 50 #[atV s m] w fun e w'=>e = .returned (.bool (decide (Mo.inR m)))∧Below w.heap.size w w':=by
 have B:=Lib.hid ((Below.refl _ w).alloc (Nat.le_refl _) (.cells (atC s m).toArray 44))
 obtain⟨t,ra,dec,dra,ddec⟩:=m
 unfold Mo.inR
 dsimp only at *
 obtain⟨x,hx⟩:∃ x,max dra ddec=x:=⟨_,rfl⟩
 obtain⟨y,hy⟩:∃ y,min dra ddec=y:=⟨_,rfl⟩
 simp only[hx,hy]
 by_cases h1:-324000000000≤dec
 ·by_cases h2:dec≤324000000000
  ·by_cases h3:x≤72000000000
   ·by_cases h4:-72000000000≤y
    ·rw[decide_eq_true (show -324000000000≤dec∧dec≤324000000000∧x≤72000000000 ∧ -72000000000≤y from⟨h1,h2,h3,h4⟩)]
     go_enter Tryz.func50,Tryz.ntmps50
     go_wp2_with fail
     exact bodyPost_ret (results_tmp rfl _ _ _) rfl ⟨rfl,B.out⟩
    ·rw[decide_eq_false (show ¬ (-324000000000≤dec∧dec≤324000000000∧x≤72000000000 ∧ -72000000000≤y) from fun q=>h4 q.2.2.2)]
     go_enter Tryz.func50,Tryz.ntmps50
     go_wp2_with fail
     exact bodyPost_ret (results_tmp rfl _ _ _) rfl ⟨rfl,B.out⟩
   ·rw[decide_eq_false (show ¬ (-324000000000≤dec∧dec≤324000000000∧x≤72000000000 ∧ -72000000000≤y) from fun q=>h3 q.2.2.1)]
    go_enter Tryz.func50,Tryz.ntmps50
    go_wp2_with fail
    exact bodyPost_ret (results_tmp rfl _ _ _) rfl ⟨rfl,B.out⟩
  ·rw[decide_eq_false (show ¬ (-324000000000≤dec∧dec≤324000000000∧x≤72000000000 ∧ -72000000000≤y) from fun q=>h2 q.2.1)]
   go_enter Tryz.func50,Tryz.ntmps50
   go_wp2_with fail
   exact bodyPost_ret (results_tmp rfl _ _ _) rfl ⟨rfl,B.out⟩
 ·rw[decide_eq_false (show ¬ (-324000000000≤dec∧dec≤324000000000∧x≤72000000000 ∧ -72000000000≤y) from fun q=>h1 q.1)]
  go_enter Tryz.func50,Tryz.ntmps50
  go_wp2_with fail
  exact bodyPost_ret (results_tmp rfl _ _ _) rfl ⟨rfl,B.out⟩
end Wd
namespace Wd
open Go.RowKit Lw Tw Tk _root_.Go.Proofs.YtdnogmanbdgadaaGreatDoor.Op Ow

abbrev Z6:List Value:=atC ByteArray.empty noMv
theorem info6:(Tryz.prog.info? 44).map (·.size)=some 6:=by kernel_rfl
structure MSt (w:World) (B:Nat) (l:List Ob) (k:Nat) (u v t:Value) (wr:World):Prop where
 fr:Fr w [(w.heap.size,Z6)] wr
 hB:w.heap.size<B
 ou:OwnI wr B u (mtT l k)
 ov:OwnI wr B v (mtR l k)
 ot:OwnI wr B t (mtD l k)
 uv:Dj u v
 ut:Dj u t
 vt:Dj v t
 site:∀ j (h:j<l.length),j<k→(l[j]'h).site=(l.headD zeroO).site
theorem motion_any (x:Option Addr) (cap:Nat) (l:List Ob) (w:World) (hE:ES w) (hl:SlA w x l) (hm:l.length≤1000000) (hb:OBs l) (h9:allT l=0→l.length≤9) :
  Calls Tryz.prog 17 #[.slice x l.length cap] w fun e w'=>e = .returned (.tuple #[atV (motE l).1 (motE l).2.1, .int .i64 (motE l).2.2])∧Below w.heap.size w w':=by
 have F0:=Lib.hid ((Fr.start w).alloc Z6 44)
 have CK:=Lib.hid (spots_any x cap l _ (hE.below F0.out.below) (hl.below F0.out.below) hm hb)
 by_cases hk:allT l=0
 ·by_cases hn0:l.length=0
  ·have em:motE l=(ByteArray.empty,noMv,22):=by unfold motE;rw[if_neg (fun q=>q hk),if_pos hn0]
   rw[em]
   rw[hk,hn0] at CK
   rw[hn0]
   clear hE hl hm hb h9 hk hn0 em
   go_enter Tryz.func17,Tryz.ntmps17
   go_wp2_with fail
   refine CK.out.mono ?_
   rintro e w1 ⟨rfl,hb⟩
   have FF:=F0.out.call hb
   obtain⟨zc0,zc1,zc2,zc3,zc4,zc5⟩:=FF.c6 0 rfl
   obtain⟨zf0,zf1,zf2,zf3,zf4,zf5⟩:=FF.f6 0 rfl
   have GG:=Lib.hid ((FF.put 0 rfl Z6 rfl).get 0 rfl)
   have BB:=Lib.hid (FF.put 0 rfl Z6 rfl).below
   clear hb FF F0 CK
   go_wp2_with fail
   refine bodyPost_ret (ret_cell_tmp Tryz.results17 _ _ w.heap.size Z6 _ rfl GG.out Tryz.underlying44 rfl info6) rfl ?_
   exact⟨rfl,BB.out⟩
  ·have hn9:=h9 hk
   rw[hk] at CK
   obtain⟨-,hok⟩:=allT_ok hk
   have h00:0<l.length:=by omega
   obtain⟨b,off,rfl,ltb,hrow⟩:=hl.get h00
   have H0:l[0]=l.headD zeroO:=by
    cases l with
    | nil=>simp at h00
    | cons a r=>rfl
   obtain⟨o0,ho0⟩:∃ o,o=l.headD zeroO:=⟨_,rfl⟩
   have k0:=hok _ (List.getElem_mem h00)
   rw[H0,← ho0] at k0
   have RW:=Lib.hid (fun i (hi:i<l.length) w' (hb:Below w.heap.size w w')=>rangeAt_below (hrow i hi) hb ltb)
   have R0:=Lib.hid (show ∀ w',Below w.heap.size w w'→w'.cell? ⟨b,off+1,none⟩=some (.string o0.site)∧w'.cell? ⟨b,off+3,none⟩=some (.int .i64 o0.ra) from fun w' hb=>by
    have r:=RW.out 0 h00 w' hb
    rw[Nat.zero_mul,Nat.add_zero,H0,← ho0] at r
    exact⟨r 1 _ rfl,r 3 _ rfl⟩)
   have OK:=Lib.hid hok
   have HO:=Lib.hid ho0
   have HK0:=Lib.hid k0
   have HM:=Lib.hid (show motE l=if ∃ o∈l,o.site≠o0.site then(ByteArray.empty,noMv,2) else
     match Mo.moved (mtT l l.length) (mtR l l.length) (mtD l l.length) with
     | .error e=>(ByteArray.empty,noMv,e)
     | .ok m=>(o0.site,{ m with ra:=(o0.ra+m.ra) % 1296000000000 },0) from by
    unfold motE
    rw[if_neg (fun q=>q hk),if_neg hn0,ho0]
    rfl)
   have HOB:=Lib.hid hb
   clear hE hl hm hb h9 hk hn0 hok hrow H0 k0 ltb ho0
   obtain⟨n,hn⟩:∃ n,n=l.length:=⟨_,rfl⟩
   rw[← hn] at CK h00 hn9 ⊢
   have HN:=Lib.hid hn
   clear hn
   have n0:¬ (n:Int)=0:=by omega
   have n0b:((n:Int)==0)=false:=by simpa using n0
   have n1:(0:Int)<(n:Int):=by omega
   have n9:(n:Int)≤9:=by omega
   obtain⟨mr,hmr⟩:∃ m,m=motE l:=⟨_,rfl⟩
   rw[← hmr] at HM ⊢
   replace hmr:=Lib.hid hmr
   go_enter Tryz.func17,Tryz.ntmps17
   go_wp2_with fail
   refine CK.out.mono ?_
   rintro e w1 ⟨rfl,hb⟩
   have st:=Lib.hid (show MSt w w1.heap.size l 0 (.slice none 0 0) (.slice none 0 0) (.slice none 0 0) w1 from
    ⟨F0.out.call hb,Nat.lt_of_lt_of_le (F0.out.least 0 rfl).2 hb.size,OwnG.nil _ _ (Nat.le_refl _),OwnG.nil _ _ (Nat.le_refl _),OwnG.nil _ _ (Nat.le_refl _),Dj.nil _,Dj.nil _,Dj.nil _,fun j _ q=>absurd q (by omega)⟩)
   clear hb F0 CK
   go_wp2_with fail
   go_loopw [5,6,7,9,31] (fun u v t _ i wr=>∃ k:Nat,k≤n∧i = .int .i64 k∧Hid (MSt w w1.heap.size l k u v t wr)) (fun _ _ _ _ i _=>n-(intOf i).toNat)
   case atStart=>exact⟨0,by omega,rfl,st⟩
   case round =>
    clear st
    obtain⟨k,hk,rfl,hS⟩:=hrel
    by_cases hkn:k<n
    ·have i1:(k:Int)<(n:Int):=by omega
     have hkl:k<l.length:=by rw[← HN.out];exact hkn
     have okk:=OK.out _ (List.getElem_mem hkl)
     have BW:=Lib.hid hS.out.fr.below
     have R:=Lib.hid (RW.out k hkl _ BW.out)
     have eT:=Lib.hid (mtT_succ hkl)
     have eR:=Lib.hid (mtR_succ hkl)
     have eD:=Lib.hid (mtD_succ hkl)
     have lT:=Lib.hid (show (mtT l k).length≤1000000 by rw[mtT,mt_len _ (by omega)];omega)
     have lR:=Lib.hid (show (mtR l k).length≤1000000 by rw[mtR,mt_len _ (by omega)];omega)
     have lD:=Lib.hid (show (mtD l k).length≤1000000 by rw[mtD,mt_len _ (by omega)];omega)
     have NS:=Lib.hid (fun (hs:(l[k]'hkl).site≠o0.site)=>(show ∃ o∈l,o.site≠o0.site from⟨_,List.getElem_mem hkl,hs⟩))
     have SK:=Lib.hid (fun (hs:(l[k]'hkl).site=o0.site) j (h:j<l.length) (hj:j<k+1)=>(show (l[j]'h).site=(l.headD zeroO).site from by
      by_cases e:j=k
      ·subst e;rw[hs,HO.out]
      ·exact hS.out.site j h (by omega)))
     rw[← HO.out] at eR
     generalize l[k]'hkl=o at *
     have ba:=(Below.refl _ wr).alloc (Nat.le_refl _) (.cells (obsC o).toArray 31)
     have MM:=Lib.hid (show M3 w1.heap.size wr.heap.size o u5 u6 u7 (mtT l k) (mtR l k) (mtD l k) (wr.alloc (.cells (obsC o).toArray 31)) from
      ⟨rangeAt_new wr _ _,by simp,hS.out.ou.2,hS.out.ou.below ba,hS.out.ov.below ba,hS.out.ot.below ba,hS.out.uv,hS.out.ut,hS.out.vt,fun e=>by have:=(hS.out.ou.1.lt _ e).2;omega,fun e=>by have:=(hS.out.ov.1.lt _ e).2;omega,fun e=>by have:=(hS.out.ot.1.lt _ e).2;omega⟩)
     have FZ:=Lib.hid (hS.out.fr.call ba)
     have hB:=Lib.hid hS.out.hB
     have SZ:=Lib.hid hS.out.ou.2
     clear ba hS
     go_wp2_with (first|(refine wpList_store_new rfl _ (.tmp 9) (.tmp 34) rfl _ _ rfl rfl info8 rfl ?_ ?_;simp[Value.oneCell'])|(refine wpList_load_mid rfl _ (.tmp 33) rfl b (off+k*8) rfl (obsC o) _ R.out Tryz.underlying31 rfl info8 ?_))
     have rb:=MM.out.box 1 _ rfl
     rw[Nat.zero_add] at rb
     have BW2:=Lib.hid (BW.out.trans (((Below.refl _ wr).alloc (Nat.le_refl _) (.cells (obsC o).toArray 31)).mono BW.out.size))
     have r1:=(R0.out _ BW2.out).1
     clear R BW
     obtain⟨wp,hwp⟩:∃ W,W=wr.alloc (.cells (obsC o).toArray 31):=⟨_,rfl⟩
     rw[← hwp] at MM FZ BW2 rb r1
     have ew:wr.alloc (.cells #[.string o.name, .string o.site, .int .i64 o.t, .int .i64 o.ra, .int .i64 o.dec, .int .i64 o.sg, .int .i64 o.mag, .int .u8 o.band] 31)=wp:=hwp.symm
     rw[ew]
     obtain⟨b9,hb9⟩:∃ b,b=wr.heap.size:=⟨_,rfl⟩
     rw[← hb9] at MM rb SZ ⊢
     clear ew hwp hb9
     by_cases hs:o.site=o0.site
     ·have sb:=site_eq hs
      have SK':=Lib.hid (SK.out hs)
      clear NS SK hs
      go_quiet (fail)
      obtain⟨wd,hwd⟩:∃ W,W=wp.drewN nq:=⟨_,rfl⟩
      rw[← hwd]
      have bd:=drewN_below2 (Below.refl wp.heap.size wp) nq
      rw[← hwd] at bd
      replace MM:=Lib.hid (MM.out.call bd)
      replace FZ:=Lib.hid (FZ.out.call bd)
      replace BW2:=Lib.hid (BW2.out.trans (bd.mono BW2.out.size))
      clear bd hwd rb r1 sb
      have c2:=MM.out.box 2 _ rfl
      rw[Nat.zero_add] at c2
      have f1:=HK0.out
      go_wp2_with (at_builtin;refine wp_app6 _ rfl (.tmp 43) (.tmp 46) rfl w1.heap.size u5 (mtT l k) o.t rfl rfl MM.out.ou lT.out ?_;intro u5' w5' g1 g2 g4;have ba:=(Below.refl _ wd).alloc (Nat.le_refl _) (.cells (iE o.t).toArray 2);have m:=(MM.out.call ba).app g1 g2 g4;have mB:=Lib.hid (Nat.le_of_lt hB.out);replace MM:=Lib.hid m.1;replace FZ:=Lib.hid (Fr.lower (FZ.out.call ba) m.2 mB.out (fun q hq=>by rw[List.mem_singleton.1 hq];exact hB.out));replace BW2:=Lib.hid ((BW2.out.trans (ba.mono BW2.out.size)).trans (m.2.mono mB.out));clear g1 g2 g4 m ba c2)
      have DF:=Lib.hid (fun w'=>Turns.diff_any o.ra o0.ra w' (by have:=okk.2.2.2.2.1;omega) (by have:=okk.2.2.2.2.2.1;omega) (by have:=f1.2.2.2.2.1;omega) (by have:=f1.2.2.2.2.2.1;omega))
      clear f1
      have bd:=(Below.refl w5'.heap.size w5').drew
      replace MM:=Lib.hid (MM.out.call bd)
      replace FZ:=Lib.hid (FZ.out.call bd)
      replace BW2:=Lib.hid (BW2.out.trans (bd.mono BW2.out.size))
      clear bd
      refine TillSt.start (fun w'=>w'.cell? ⟨b9,3,none⟩=some (.int .i64 o.ra)∧w'.cell? ⟨b,off+3,none⟩=some (.int .i64 o0.ra)) 10 (by kernel_rfl) (⟨MM.out.box 3 _ rfl,(R0.out _ BW2.out).2⟩) (fun hHeld=>?_)
      generalize w5'.drew=wd at *
      refine TillSt.tP 0 (fun _=>hHeld) ?_
      refine TillSt.tP 1 (fun _=>hHeld) ?_
      refine TillSt.tL 2 hHeld (hy:=Or.inl ⟨by rfl,by intro w hSw;obtain⟨q1, -⟩:=hSw;go_simp;try with_reducible rfl⟩) (h:=?_)
      refine TillSt.tP 3 (fun _=>hHeld) ?_
      refine TillSt.tP 4 (fun _=>hHeld) ?_
      refine TillSt.tP 5 (fun _=>hHeld) ?_
      refine TillSt.tL 6 hHeld (hy:=Or.inl ⟨by rfl,by intro w hSw;obtain⟨-,q1⟩:=hSw;go_simp;try with_reducible rfl⟩) (h:=?_)
      refine TillSt.nx [7] ?_
      refine NextSt.cons rfl (fun K' hK=>?_) NextSt.nil
      clear hHeld
      go_simp
      go_at_call 19
      refine(DF.out _).mono ?_
      rintro e wq ⟨rfl,hq⟩
      subst hq
      refine hK.out _ _ (⟨MM.out.box 3 _ rfl,(R0.out _ BW2.out).2⟩) (fun hHeld=>?_)
      clear hK
      try simp only[Act.put,Lw.s1,Lw.s2,Lw.s3]
      refine TillSt.nx [8] ?_
      refine NextSt.cons rfl (fun K' hK=>?_) NextSt.nil
      clear hHeld
      go_simp
      have MM0:=MM
      have FZ0:=FZ
      have BW0:=BW2
      have ba:=(Below.refl _ wd).alloc (Nat.le_refl _) (.cells (iE (Pl.dif o.ra o0.ra)).toArray 2)
      replace MM:=Lib.hid (MM.out.call ba)
      replace FZ:=Lib.hid (FZ.out.call ba)
      replace BW2:=Lib.hid (BW2.out.trans (ba.mono BW2.out.size))
      clear ba
      refine hK.out _ _ (⟨MM.out.box 3 _ rfl,(R0.out _ BW2.out).2⟩) (fun hHeld=>?_)
      clear hK
      try simp only[Act.put,Lw.s1,Lw.s2,Lw.s3]
      refine TillSt.nx [9] ?_
      refine NextSt.cons rfl (fun K' hK=>?_) NextSt.nil
      clear hHeld
      refine step_appK Tryz.underlying50 info_i6 rfl (by decide) (by decide) (fun _=>rfl) iE_one wd rfl (.tmp 48) (.tmp 56) (by rfl) w1.heap.size u6 (mtR l k) (Pl.dif o.ra o0.ra) (by rfl) (by rfl) MM0.out.ov lR.out ?_
      intro u6' w6 g1 g2 g4 g5
      have m:=MM.out.rot.app g1 g2 (by simpa using g4)
      have mB:=Lib.hid (Nat.le_of_lt hB.out)
      replace MM:=Lib.hid m.1.rot.rot
      replace FZ:=Lib.hid (Fr.lower FZ.out m.2 mB.out (fun q hq=>by rw[List.mem_singleton.1 hq];exact hB.out))
      replace BW2:=Lib.hid (BW2.out.trans (m.2.mono mB.out))
      clear g1 g2 g4 g5 m MM0 FZ0 BW0 DF
      refine hK.out _ _ (⟨MM.out.box 3 _ rfl,(R0.out _ BW2.out).2⟩) (fun hHeld=>?_)
      clear hK
      try simp only[Act.put,Lw.s1,Lw.s2,Lw.s3]
      refine TillSt.nx [10] ?_
      refine NextSt.last rfl (by kernel_rfl) (fun K' hK=>?_) NextSt.nil
      clear hHeld
      go_simp
      refine hK.out _ _ ?_
      clear hK
      try simp only[Act.put,Lw.s1,Lw.s2,Lw.s3]
      refine TillSt.done (by kernel_rfl) ?_ _
      have c4:=MM.out.box 4 _ rfl
      rw[Nat.zero_add] at c4
      go_wp2_with (at_builtin;refine wp_app6 _ rfl (.tmp 58) (.tmp 61) rfl w1.heap.size u7 (mtD l k) o.dec rfl rfl MM.out.ot lD.out ?_;intro u7' w7' g1 g2 g4;have ba:=(Below.refl _ w6).alloc (Nat.le_refl _) (.cells (iE o.dec).toArray 2);have m:=(MM.out.rot.rot.call ba).app g1 g2 g4;have mB:=Lib.hid (Nat.le_of_lt hB.out);replace MM:=Lib.hid m.1.rot;replace FZ:=Lib.hid (Fr.lower (FZ.out.call ba) m.2 mB.out (fun q hq=>by rw[List.mem_singleton.1 hq];exact hB.out));clear g1 g2 g4 m ba c4 BW2)
      go_roundw
      case rel=>exact⟨k+1,by omega,by simp,Lib.hid ⟨FZ.out,hB.out,by rw[eT.out];exact MM.out.ou,by rw[eR.out];exact MM.out.ov,by rw[eD.out];exact MM.out.ot,MM.out.uv,MM.out.ut,MM.out.vt,SK'.out⟩⟩
      case measure=>simp[intOf];omega
     ·have sb:=site_ne hs
      have HM2:mr=(ByteArray.empty,noMv,2):=by rw[HM.out,if_pos (NS.out hs)]
      subst HM2
      go_quiet (fail)
      have FF:=FZ.out.drewN nq
      generalize wp.drewN nq=wd at *
      obtain⟨zc0,zc1,zc2,zc3,zc4,zc5⟩:=FF.c6 0 rfl
      obtain⟨zf0,zf1,zf2,zf3,zf4,zf5⟩:=FF.f6 0 rfl
      have GG:=Lib.hid ((FF.put 0 rfl Z6 rfl).get 0 rfl)
      have BB:=Lib.hid (FF.put 0 rfl Z6 rfl).below
      clear FF FZ MM BW2 SZ R0 RW
      go_wp2_with fail
      refine bodyPost_ret (ret_cell_tmp Tryz.results17 _ _ w.heap.size Z6 _ rfl GG.out Tryz.underlying44 rfl info6) rfl ?_
      exact⟨rfl,BB.out⟩
    ·obtain rfl:k=n:=by omega
     have ns:¬ ∃ o∈l,o.site≠o0.site:=by
      rintro ⟨o,ho,hne⟩
      obtain⟨j,hj,rfl⟩:=List.getElem_of_mem ho
      exact hne (by rw[hS.out.site j hj (by rw[HN.out];exact hj),HO.out])
     rw[if_neg ns,← HN.out] at HM
     have lT:(mtT l k).length=k:=by rw[mtT,mt_len _ (by have:=HN.out;omega)]
     have lR:(mtR l k).length=k:=by rw[mtR,mt_len _ (by have:=HN.out;omega)]
     have lD:(mtD l k).length=k:=by rw[mtD,mt_len _ (by have:=HN.out;omega)]
     obtain⟨g5,c5,e5,b5,l5,r5,t5,w5⟩:=hS.out.ou.opens (by omega)
     obtain⟨g6,c6,e6,b6,l6,r6,t6,w6⟩:=hS.out.ov.opens (by omega)
     obtain⟨g7,c7,e7,b7,l7,r7,t7,w7⟩:=hS.out.ot.opens (by omega)
     have d56:g5≠g6:=fun e=>hS.out.uv g5 w5 (by rw[w6,e])
     have d57:g5≠g7:=fun e=>hS.out.ut g5 w5 (by rw[w7,e])
     have d67:g6≠g7:=fun e=>hS.out.vt g6 w6 (by rw[w7,e])
     have hB:=hS.out.hB
     have FT:Fr w [(g5,i6L (mtT l k)),(g6,i6L (mtR l k)),(g7,i6L (mtD l k)),(w.heap.size,Z6)] wr:=by
      have h0:=hS.out.fr
      refine⟨h0.below,fun p hp=>?_,fun p hp=>?_,?_,fun p hp=>?_,fun p hp=>?_⟩
      ·simp only[List.mem_cons,List.not_mem_nil,or_false] at hp
       rcases hp with rfl|rfl|rfl|rfl <;> simp only <;> omega
      ·simp only[List.mem_cons,List.not_mem_nil,or_false] at hp
       rcases hp with rfl|rfl|rfl|rfl <;> simp only <;> first|assumption|exact(h0.least 0 rfl).2
      ·simp only[List.map_cons,List.map_nil,List.nodup_cons,List.mem_cons,List.not_mem_nil,or_false,not_or,not_false_eq_true,List.nodup_nil,and_true]
       refine⟨⟨d56,d57,by omega⟩,⟨d67,by omega⟩,by omega⟩
      ·simp only[List.mem_cons,List.not_mem_nil,or_false] at hp
       rcases hp with rfl|rfl|rfl|rfl
       ·exact r5
       ·exact r6
       ·exact r7
       ·exact h0.get 0 rfl
      ·simp only[List.mem_cons,List.not_mem_nil,or_false] at hp
       rcases hp with rfl|rfl|rfl|rfl
       ·simpa using t5
       ·simpa using t6
       ·simpa using t7
       ·exact h0.there 0 rfl
     rw[lT] at e5
     rw[lR] at e6
     rw[lD] at e7
     subst e5 e6 e7
     obtain⟨T,hT⟩:∃ T,T=mtT l k:=⟨_,rfl⟩
     obtain⟨Rr,hR⟩:∃ T,T=mtR l k:=⟨_,rfl⟩
     obtain⟨Dd,hD⟩:∃ T,T=mtD l k:=⟨_,rfl⟩
     rw[← hT,← hR,← hD] at FT
     rw[← hT,← hR,← hD] at HM
     rw[← hT] at lT
     rw[← hR] at lR
     rw[← hD] at lD
     have bT:∀ x∈T, -2000000000000000000≤x∧x≤2000000000000000000:=fun x hx=>by
      rw[hT,mtT] at hx
      obtain⟨o,ho,rfl⟩:=List.mem_map.1 hx
      exact time_bd (OK.out o (List.mem_of_mem_take ho)).1
     have bR:∀ x∈Rr, -648000000000≤x∧x≤648000000000:=fun x hx=>by
      rw[hR,mtR] at hx
      obtain⟨o,ho,rfl⟩:=List.mem_map.1 hx
      exact Pl.dif_bd _ _
     have bD:∀ x∈Dd, -648000000000≤x∧x≤648000000000:=fun x hx=>by
      rw[hD,mtD] at hx
      obtain⟨o,ho,rfl⟩:=List.mem_map.1 hx
      have:=OK.out o (List.mem_of_mem_take ho)
      have h1:=this.2.2.2.2.2.2.1
      have h2:=this.2.2.2.2.2.2.2.1
      omega
     have R0':=Lib.hid (fun w' (hb:Below w.heap.size w w')=>R0.out w' hb)
     obtain⟨li,hli,eli⟩:=Mo.lo_at (l:=T) (by omega)
     obtain⟨hi,hhi,ehi⟩:=Mo.hi_at (l:=T) (by omega)
     have blo:=bT _ (List.getElem_mem hli)
     have bhi:=bT _ (List.getElem_mem hhi)
     rw[← eli] at blo
     rw[← ehi] at bhi
     have MI:=Lib.hid (fun c=>min_any (.slice (some ⟨g5,0,none⟩) k c) T wr (I6.ofR (FT.get 0 rfl) (FT.least 0 rfl).2 lT.symm) (by omega) (by omega))
     have MA:=Lib.hid (fun c=>max_any (.slice (some ⟨g5,0,none⟩) k c) T wr (I6.ofR (FT.get 0 rfl) (FT.least 0 rfl).2 lT.symm) (by omega) (by omega))
     have FT':=Lib.hid FT
     have LT':=Lib.hid lT
     have LR':=Lib.hid lR
     have LD':=Lib.hid lD
     have BT:=Lib.hid bT
     have BR:=Lib.hid bR
     have BD:=Lib.hid bD
     clear FT lT lR lD bT bR bD hT hR hD b5 b6 b7 l5 l6 l7 r5 r6 r7 t5 t6 t7 w5 w6 w7 d56 d57 d67 hB hS ns eli ehi hli hhi R0 RW HOB OK
     obtain⟨lo,hlo⟩:∃ z,z=Mo.lo T:=⟨_,rfl⟩
     obtain⟨hg,hhg⟩:∃ z,z=Mo.hi T:=⟨_,rfl⟩
     rw[← hlo] at blo MI
     rw[← hhg] at bhi MA
     have wsub:IntKind.i64.wrap (hg-lo)=hg-lo:=by rw[IntKind.wrap_i64];omega
     replace hlo:=Lib.hid hlo
     replace hhg:=Lib.hid hhg
     by_cases c1:172800000000<hg-lo
     ·have em:mr=(ByteArray.empty,noMv,2):=by
       rw[HM.out]
       unfold Mo.moved
       rw[if_pos (by rw[← hlo.out,← hhg.out];exact c1)]
      subst em
      have FF:=FT'.out
      obtain⟨zc0,zc1,zc2,zc3,zc4,zc5⟩:=FF.c6 3 rfl
      obtain⟨zf0,zf1,zf2,zf3,zf4,zf5⟩:=FF.f6 3 rfl
      have GG:=Lib.hid ((FF.put 3 rfl Z6 rfl).get 3 rfl)
      have BB:=Lib.hid (FF.put 3 rfl Z6 rfl).below
      clear FF FT'
      go_wp2_with (first|(go_at_call 46;refine(MI.out _).mono ?_;rintro e w' ⟨rfl,hw⟩;subst hw)|(go_at_call 47;refine(MA.out _).mono ?_;rintro e w' ⟨rfl,hw⟩;subst hw))
      refine bodyPost_ret (ret_cell_tmp Tryz.results17 _ _ w.heap.size Z6 _ rfl GG.out Tryz.underlying44 rfl info6) rfl ?_
      exact⟨rfl,BB.out⟩
     ·by_cases c2:hg=lo
      ·have em:mr=(ByteArray.empty,noMv,22):=by
        rw[HM.out]
        unfold Mo.moved
        rw[if_neg (by rw[← hlo.out,← hhg.out];exact c1),if_pos (by rw[← hlo.out,← hhg.out];exact c2)]
       subst em
       have c2b:(hg==lo)=true:=by simpa using c2
       have FF:=FT'.out
       obtain⟨zc0,zc1,zc2,zc3,zc4,zc5⟩:=FF.c6 3 rfl
       obtain⟨zf0,zf1,zf2,zf3,zf4,zf5⟩:=FF.f6 3 rfl
       have GG:=Lib.hid ((FF.put 3 rfl Z6 rfl).get 3 rfl)
       have BB:=Lib.hid (FF.put 3 rfl Z6 rfl).below
       clear FF FT'
       go_wp2_with (first|(go_at_call 46;refine(MI.out _).mono ?_;rintro e w' ⟨rfl,hw⟩;subst hw)|(go_at_call 47;refine(MA.out _).mono ?_;rintro e w' ⟨rfl,hw⟩;subst hw))
       refine bodyPost_ret (ret_cell_tmp Tryz.results17 _ _ w.heap.size Z6 _ rfl GG.out Tryz.underlying44 rfl info6) rfl ?_
       exact⟨rfl,BB.out⟩
      ·have c2b:(hg==lo)=false:=by simpa using c2
       have r1:=(R0'.out _ FT'.out.below).1
       have wadd:IntKind.i64.wrap (lo+hg)=lo+hg:=by rw[IntKind.wrap_i64];omega
       go_wp2_with (first|(go_at_call 46;refine(MI.out _).mono ?_;rintro e w' ⟨rfl,hw⟩;subst hw)|(go_at_call 47;refine(MA.out _).mono ?_;rintro e w' ⟨rfl,hw⟩;subst hw))
       obtain⟨m,hm⟩:∃ z,z=(lo+hg)/2:=⟨_,rfl⟩
       rw[← hm]
       have em:m=Mo.midT T:=by rw[hm,hlo.out,hhg.out];rfl
       have FA:=Lib.hid (FT'.out.alloc (atC o0.site ⟨m,0,0,0,0⟩) 44)
       obtain⟨MF1,MF2,MF3⟩:=Mo.mv_facts (T:=T) (by have:=LT'.out;omega) (by rw[← hlo.out,← hhg.out];exact c2) (by rw[← hlo.out,← hhg.out];omega)
       rw[← em] at MF1 MF2 MF3
       have bM:-2000000000000000000≤m∧m≤2000000000000000000:=by omega
       obtain⟨⟨a1,a2,a3⟩,hfa⟩:∃ q,q=Mo.fitE (T.map (· - m)) Rr:=⟨_,rfl⟩
       obtain⟨⟨d1,d2,d3⟩,hfd⟩:∃ q,q=Mo.fitE (T.map (· - m)) Dd:=⟨_,rfl⟩
       have HM2:=Mo.moved_eq (T:=T) (R:=Rr) (D:=Dd) (a1:=a1) (a2:=a2) (a3:=a3) (d1:=d1) (d2:=d2) (d3:=d3) (by rw[← hlo.out,← hhg.out];omega) (by rw[← hlo.out,← hhg.out];exact c2) (by rw[← em];exact hfa.symm) (by rw[← em];exact hfd.symm)
       rw[← em] at HM2
       have ba1:=MF3 Rr (by rw[LR'.out,LT'.out]) (by rw[LT'.out];omega) BR.out
       rw[← hfa] at ba1
       have HMM:=Lib.hid (show mr=match (if a3≠0 then Except.error 16 else if d3≠0∨¬ Mo.inR ⟨m,a1,d1,a2,d2⟩ then .error 16 else .ok ⟨m,a1,d1,a2,d2⟩:Except Int Mo.Mv) with
        | .error e=>(ByteArray.empty,noMv,e)
        | .ok m=>(o0.site,{ m with ra:=(o0.ra+m.ra) % 1296000000000 },0) from by have:=HM.out;rw[HM2] at this;exact this)
       have BA1:=Lib.hid ba1
       have lm:(T.map (· - m)).length=k:=by rw[List.length_map];exact LT'.out
       have FI1:=Lib.hid (fun V1 V2 w' (g1:I6 w' V1 (T.map (· - m))) (g2:I6 w' V2 Rr)=>fit_any V1 V2 _ Rr w' g1 g2 (by rw[lm];exact LR'.out) (by rw[lm];omega) MF1 MF2 (fun x hx=>by have:=BR.out x hx;omega))
       have FI2:=Lib.hid (fun V1 V2 w' (g1:I6 w' V1 (T.map (· - m))) (g2:I6 w' V2 Dd)=>fit_any V1 V2 _ Dd w' g1 g2 (by rw[lm];exact LD'.out) (by rw[lm];omega) MF1 MF2 (fun x hx=>by have:=BD.out x hx;omega))
       rw[← hfa] at FI1
       rw[← hfd] at FI2
       dsimp only at FI1 FI2
       obtain⟨b12,hb12⟩:∃ z,z=wr.heap.size:=⟨_,rfl⟩
       obtain⟨wq,hwq⟩:∃ W,W=wr.alloc (.cells (atC o0.site ⟨m,0,0,0,0⟩).toArray 44):=⟨_,rfl⟩
       have ew:wr.alloc (.cells #[.string o0.site, .int .i64 m, .int .i64 0, .int .i64 0, .int .i64 0, .int .i64 0] 44)=wq:=hwq.symm
       rw[ew,← hb12]
       rw[← hwq,← hb12] at FA
       have EM:=Lib.hid em
       clear HM HM2 ba1 hfa hfd MF1 MF2 MF3 hm em ew hwq hb12 blo bhi wsub wadd r1 MI MA FT' hlo hhg c1 c2 c2b
       go_loopw [13,90] (fun _ jv wz=>∃ j:Nat,j≤k∧jv = .int .i64 j∧Hid (Fr w [(b12,atC o0.site ⟨m,0,0,0,0⟩),(g5,i6L (Mo.sh T m j)),(g6,i6L Rr),(g7,i6L Dd),(w.heap.size,Z6)] wz)) (fun _ jv _=>k-(intOf jv).toNat)
       case atStart=>exact⟨0,by omega,rfl,by rw[Mo.sh_zero];exact FA⟩
       case round =>
        clear FA
        obtain⟨wz,hwz⟩:∃ x,x=wr:=⟨_,rfl⟩
        subst hwz
        obtain⟨j,hj,rfl,FF⟩:=hrel
        by_cases hjk:j<k
        ·have j1:(j:Int)<(k:Int):=by omega
         have hjT:j<T.length:=by rw[LT'.out];exact hjk
         have tb:=BT.out _ (List.getElem_mem hjT)
         have e1:=Mo.sh_get (m:=m) hjT
         have e2:=Mo.sh_set (m:=m) hjT
         obtain⟨tj,htj⟩:∃ z,z=T[j]:=⟨_,rfl⟩
         rw[← htj] at tb e1 e2
         have wsub:IntKind.i64.wrap (tj-m)=tj-m:=by rw[IntKind.wrap_i64];omega
         have E1:=Lib.hid (show (i6L (Mo.sh T m j))[j]? = some (.int .i64 tj) by rw[List.getElem?_map,e1];rfl)
         have E2:=Lib.hid (show (i6L (Mo.sh T m j)).set j (.int .i64 (tj-m))=i6L (Mo.sh T m (j+1)) by rw[← e2,i6L,i6L,List.map_set])
         have LJ:=Lib.hid (show j<(i6L (Mo.sh T m j)).length by rw[i6L,List.length_map,Mo.sh_len];exact hjT)
         clear htj tb e1 e2 HMM FI1 FI2
         go_wp2_with fail
         replace FF:=Lib.hid FF.out.drew
         refine TillSt.start (fun w'=>w'.cell? ⟨g5,j,none⟩=some (.int .i64 tj)∧w'.cell? ⟨b12,1,none⟩=some (.int .i64 m)) 8 (by kernel_rfl) (⟨FF.out.cell 1 j rfl E1.out,FF.out.cell 0 1 rfl rfl⟩) (fun hHeld=>?_)
         generalize wz.drew=wd at *
         refine TillSt.tP 0 (fun _=>hHeld) ?_
         refine TillSt.tP 1 (fun _=>hHeld) ?_
         refine TillSt.tP 2 (fun _=>hHeld) ?_
         refine TillSt.tL 3 hHeld (hy:=Or.inl ⟨by rfl,by intro w hSw;obtain⟨q1, -⟩:=hSw;go_simp;try with_reducible rfl⟩) (h:=?_)
         refine TillSt.tP 4 (fun _=>hHeld) ?_
         refine TillSt.tL 5 hHeld (hy:=Or.inl ⟨by rfl,by intro w hSw;obtain⟨-,q1⟩:=hSw;go_simp;try with_reducible rfl⟩) (h:=?_)
         refine TillSt.tP 6 (fun _=>hHeld) ?_
         refine TillSt.tP 7 (fun _=>hHeld) ?_
         refine TillSt.nx [8] ?_
         refine NextSt.last rfl (by kernel_rfl) (fun K' hK=>?_) NextSt.nil
         have s0:=FF.out.cell 1 j rfl E1.out
         have s1:=FF.out.fz 1 j rfl E1.out
         clear hHeld
         go_simp
         clear s0 s1
         refine hK.out _ _ ?_
         clear hK
         try simp only[Act.put,Lw.s1,Lw.s2,Lw.s3]
         refine TillSt.done (by kernel_rfl) ?_ _
         have F1:=FF.out.put1 1 rfl j (.int .i64 (tj-m)) LJ.out
         rw[E2.out] at F1
         have st:=Lib.hid (show Fr w [(b12,atC o0.site ⟨m,0,0,0,0⟩),(g5,i6L (Mo.sh T m (j+1))),(g6,i6L Rr),(g7,i6L Dd),(w.heap.size,Z6)] _ from F1)
         clear F1 FF
         go_wp2_with fail
         go_roundw
         case rel=>exact⟨j+1,by omega,by simp,st⟩
         case measure=>simp[intOf];omega
        ·obtain rfl:j=k:=by omega
         rw[← LT'.out,Mo.sh_all] at FF
         have I5:=I6.ofR (c:=c5) (FF.out.get 1 rfl) (FF.out.least 1 rfl).2 lm.symm
         have I6':=I6.ofR (c:=c6) (FF.out.get 2 rfl) (FF.out.least 2 rfl).2 LR'.out.symm
         have HA:=Lib.hid (FI1.out _ _ _ I5 I6')
         clear I5 I6' FI1
         go_wp2_with fail
         refine HA.out.mono ?_
         rintro e w2 ⟨rfl,hb⟩
         replace FF:=Lib.hid (FF.out.call hb)
         clear hb HA
         by_cases h3:a3=0
         ·subst h3
          have I5:=I6.ofR (c:=c5) (FF.out.get 1 rfl) (FF.out.least 1 rfl).2 lm.symm
          have I7:=I6.ofR (c:=c7) (FF.out.get 3 rfl) (FF.out.least 3 rfl).2 LD'.out.symm
          have HB:=Lib.hid (FI2.out _ _ _ I5 I7)
          clear I5 I7 FI2
          go_wp2_with fail
          refine HB.out.mono ?_
          rintro e w3 ⟨rfl,hb⟩
          replace FF:=Lib.hid (FF.out.call hb)
          clear hb HB
          have r3:=(R0'.out _ FF.out.below).2
          have kk:=HK0.out
          have k1:=kk.2.2.2.2.1
          have k2:=kk.2.2.2.2.2.1
          have k3:=BA1.out
          have wadd:IntKind.i64.wrap (o0.ra+a1)=o0.ra+a1:=by rw[IntKind.wrap_i64];omega
          have NM:=Lib.hid (fun w'=>Turns.norm_any (o0.ra+a1) w' (by omega) (by omega))
          clear kk k1 k2 k3
          obtain⟨R,hR⟩:∃ z,z=(o0.ra+a1) % 1296000000000:=⟨_,rfl⟩
          rw[← hR] at NM
          replace hR:=Lib.hid hR
          have c0:=FF.out.cell 0 2 rfl rfl
          have c1:=FF.out.cell 0 3 rfl rfl
          have c2:=FF.out.cell 0 4 rfl rfl
          have c3:=FF.out.cell 0 5 rfl rfl
          have f0:=FF.out.fz 0 2 rfl rfl
          have f1:=FF.out.fz 0 3 rfl rfl
          have f2:=FF.out.fz 0 4 rfl rfl
          have f3:=FF.out.fz 0 5 rfl rfl
          have FP:=Lib.hid (show Fr w [(b12,atC o0.site ⟨m,R,d1,a2,d2⟩),(g5,i6L (T.map (· - m))),(g6,i6L Rr),(g7,i6L Dd),(w.heap.size,Z6)] _ from(((FF.out.put1 0 rfl 2 (.int .i64 R) (by simp)).put1 0 rfl 3 (.int .i64 d1) (by simp)).put1 0 rfl 4 (.int .i64 a2) (by simp)).put1 0 rfl 5 (.int .i64 d2) (by simp))
          clear FF
          go_upto_region 32 with(go_at_call 49;refine(NM.out _).mono ?_;rintro e w' ⟨rfl,hw⟩;subst hw)
          clear c0 c1 c2 c3 f0 f1 f2 f3 r3 wadd
          obtain⟨w4,hw4⟩:∃ W,W=(((w3.setCell ⟨b12,2,none⟩ (.int .i64 R)).setCell ⟨b12,3,none⟩ (.int .i64 d1)).setCell ⟨b12,4,none⟩ (.int .i64 a2)).setCell ⟨b12,5,none⟩ (.int .i64 d2):=⟨_,rfl⟩
          rw[← hw4] at FP ⊢
          clear hw4
          have FF:=FP
          clear FP
          by_cases h4:d3=0
          ·subst h4
           have IR:=Lib.hid (inrange_any o0.site ⟨m,R,d1,a2,d2⟩ w4)
           obtain⟨n0,n1,n2,n3,n4,n5⟩:=FF.out.c6 0 rfl
           go_wp2_with fail
           clear n0 n1 n2 n3 n4 n5
           refine IR.out.mono ?_
           rintro e w5 ⟨rfl,hb⟩
           replace FF:=Lib.hid (FF.out.call hb)
           clear hb IR
           by_cases hr:Mo.inR ⟨m,R,d1,a2,d2⟩
           ·have hr':Mo.inR ⟨m,a1,d1,a2,d2⟩:=hr
            have em:mr=(o0.site,⟨m,R,d1,a2,d2⟩,0):=by
             rw[HMM.out,if_neg (by simp),if_neg (by simp[hr']),hR.out]
            subst em
            rw[decide_eq_true hr]
            obtain⟨n0,n1,n2,n3,n4,n5⟩:=FF.out.c6 0 rfl
            obtain⟨zc0,zc1,zc2,zc3,zc4,zc5⟩:=FF.out.c6 4 rfl
            obtain⟨zf0,zf1,zf2,zf3,zf4,zf5⟩:=FF.out.f6 4 rfl
            have GG:=Lib.hid ((FF.out.put 4 rfl (atC o0.site ⟨m,R,d1,a2,d2⟩) rfl).get 4 rfl)
            have BB:=Lib.hid (FF.out.put 4 rfl (atC o0.site ⟨m,R,d1,a2,d2⟩) rfl).below
            clear FF hr hr' HMM hR
            go_wp2_with fail
            refine bodyPost_ret (ret_cell_tmp Tryz.results17 _ _ w.heap.size (atC o0.site ⟨m,R,d1,a2,d2⟩) _ rfl GG.out Tryz.underlying44 rfl info6) rfl ?_
            exact⟨rfl,BB.out⟩
           ·have hr':¬ Mo.inR ⟨m,a1,d1,a2,d2⟩:=hr
            have em:mr=(ByteArray.empty,noMv,16):=by
             rw[HMM.out,if_neg (by simp),if_pos (Or.inr hr')]
            subst em
            rw[decide_eq_false hr]
            clear hr hr' HMM hR
            obtain⟨zc0,zc1,zc2,zc3,zc4,zc5⟩:=FF.out.c6 4 rfl
            obtain⟨zf0,zf1,zf2,zf3,zf4,zf5⟩:=FF.out.f6 4 rfl
            have GG:=Lib.hid ((FF.out.put 4 rfl Z6 rfl).get 4 rfl)
            have BB:=Lib.hid (FF.out.put 4 rfl Z6 rfl).below
            clear FF
            go_wp2_with fail
            refine bodyPost_ret (ret_cell_tmp Tryz.results17 _ _ w.heap.size Z6 _ rfl GG.out Tryz.underlying44 rfl info6) rfl ?_
            exact⟨rfl,BB.out⟩
          ·have h4b:(d3==0)=false:=by simpa using h4
           have em:mr=(ByteArray.empty,noMv,16):=by
            rw[HMM.out,if_neg (by simp),if_pos (Or.inl h4)]
           subst em
           clear HMM hR
           obtain⟨zc0,zc1,zc2,zc3,zc4,zc5⟩:=FF.out.c6 4 rfl
           obtain⟨zf0,zf1,zf2,zf3,zf4,zf5⟩:=FF.out.f6 4 rfl
           have GG:=Lib.hid ((FF.out.put 4 rfl Z6 rfl).get 4 rfl)
           have BB:=Lib.hid (FF.out.put 4 rfl Z6 rfl).below
           clear FF
           go_wp2_with fail
           refine bodyPost_ret (ret_cell_tmp Tryz.results17 _ _ w.heap.size Z6 _ rfl GG.out Tryz.underlying44 rfl info6) rfl ?_
           exact⟨rfl,BB.out⟩
         ·have h3b:(a3==0)=false:=by simpa using h3
          have em:mr=(ByteArray.empty,noMv,16):=by rw[HMM.out,if_pos h3]
          subst em
          clear HMM FI2
          obtain⟨zc0,zc1,zc2,zc3,zc4,zc5⟩:=FF.out.c6 4 rfl
          obtain⟨zf0,zf1,zf2,zf3,zf4,zf5⟩:=FF.out.f6 4 rfl
          have GG:=Lib.hid ((FF.out.put 4 rfl Z6 rfl).get 4 rfl)
          have BB:=Lib.hid (FF.out.put 4 rfl Z6 rfl).below
          clear FF
          go_wp2_with fail
          refine bodyPost_ret (ret_cell_tmp Tryz.results17 _ _ w.heap.size Z6 _ rfl GG.out Tryz.underlying44 rfl info6) rfl ?_
          exact⟨rfl,BB.out⟩
 ·have em:motE l=(ByteArray.empty,noMv,allT l):=by unfold motE;rw[if_pos hk]
  rw[em]
  generalize allT l=K at *
  have hkb:(K==0)=false:=by simpa using hk
  clear hE hl hm hb h9 em
  generalize l.length=n at *
  go_enter Tryz.func17,Tryz.ntmps17
  go_wp2_with fail
  refine CK.out.mono ?_
  rintro e w1 ⟨rfl,hb⟩
  have FF:=F0.out.call hb
  obtain⟨zc0,zc1,zc2,zc3,zc4,zc5⟩:=FF.c6 0 rfl
  obtain⟨zf0,zf1,zf2,zf3,zf4,zf5⟩:=FF.f6 0 rfl
  have GG:=Lib.hid ((FF.put 0 rfl Z6 rfl).get 0 rfl)
  have BB:=Lib.hid (FF.put 0 rfl Z6 rfl).below
  clear hb FF F0 CK
  go_wp2_with fail
  refine bodyPost_ret (ret_cell_tmp Tryz.results17 _ _ w.heap.size Z6 _ rfl GG.out Tryz.underlying44 rfl info6) rfl ?_
  exact⟨rfl,BB.out⟩
end Wd
end Go.Proofs.YtdnogmanbdgadaaGreatDoor
