/-
  Lemmas and walks, texts joined: QFit, QMo2, QMtA.
-/
import Derived.Test.YtdnogmanbdgadaaGreatDoorTb38
import Derived.Test.YtdnogmanbdgadaaGreatDoorTb26
import Derived.Test.YtdnogmanbdgadaaGreatDoorTb37
import Derived.Test.YtdnogmanbdgadaaGreatDoorTb10
set_option linter.unusedSimpArgs false
set_option linter.unusedVariables false
set_option maxRecDepth 100000
set_option maxHeartbeats 40000000
namespace Go.Proofs.YtdnogmanbdgadaaGreatDoor
namespace Wd
open Go.RowKit Lw Tw

theorem info_i6:(Tryz.prog.info? 2).map (fun i=>(i.zero,i.size,i.bytes))=some (some (.int .i64 0),1,8):=by kernel_rfl
theorem info_s6:(Tryz.prog.info? 50).map (fun i=>(i.zero,i.size,i.bytes))=some (some (.slice none 0 0),1,24):=by kernel_rfl
theorem made_one (z:Value) (n:Nat):madeCells #[z] n=(List.replicate n z).toArray:=by
 apply Array.ext
 ·simp[size_madeCells]
 ·intro i h1 h2
  have e:i % 1=0:=Nat.mod_one i
  simp[madeCells,e]
abbrev zs (n:Nat):Array Value:=(List.replicate n (.int .i64 0)).toArray
abbrev nls (n:Nat):Array Value:=(List.replicate n (.slice none 0 0)).toArray
theorem make_i6 (n:Nat) (hn:n≤1000000) (w:World):(Instr.makeSlice 50 (.int .i64 (n:Int)) (.int .i64 (n:Int))).run Tryz.prog w = .ok (.slice (some ⟨w.heap.size,0,none⟩) n n) (w.alloc (.cells (zs n) 2)):=by
 obtain⟨i,hi,hzz⟩:=Option.map_eq_some_iff.1 info_i6
 simp only[Prod.mk.injEq] at hzz
 obtain⟨hz,hs,hb⟩:=hzz
 have h:=run_make (P:=Tryz.prog) w 50 2 i _ Tryz.underlying50 hi hz .i64 .i64 (n:Int) (n:Int) (by omega) (Int.le_refl _) (by rw[hb];omega) (by omega)
 rw[hs,Int.toNat_natCast,Nat.mul_one] at h
 rw[show zs n=_ from(made_one _ n).symm]
 exact h
theorem make_s6 (n:Nat) (hn:n≤1000000) (w:World):(Instr.makeSlice 130 (.int .i64 (n:Int)) (.int .i64 (n:Int))).run Tryz.prog w = .ok (.slice (some ⟨w.heap.size,0,none⟩) n n) (w.alloc (.cells (nls n) 50)):=by
 obtain⟨i,hi,hzz⟩:=Option.map_eq_some_iff.1 info_s6
 simp only[Prod.mk.injEq] at hzz
 obtain⟨hz,hs,hb⟩:=hzz
 have h:=run_make (P:=Tryz.prog) w 130 50 i _ Tryz.underlying130 hi hz .i64 .i64 (n:Int) (n:Int) (by omega) (Int.le_refl _) (by rw[hb];omega) (by omega)
 rw[hs,Int.toNat_natCast,Nat.mul_one] at h
 rw[show nls n=_ from(made_one _ n).symm]
 exact h
def FitI (w:World) (b1 b2 lo:Nat) (ts:List Int) (i:Nat) (wr:World):Prop :=
 ∃ Hd O:List Value,Hd.length=ts.length∧O.length=ts.length∧Fr w [(b2,O),(b1,Hd)] wr∧(∀ j (h:j<ts.length),j<i → ∃ g,Hd[j]? = some (.slice (some ⟨g,0,none⟩) 2 2)∧lo≤g∧g<wr.heap.size∧wr.rangeAt g 0 [.int .i64 1, .int .i64 ts[j]]) ∧ ∀ j,j<i→O[j]? = some (.int .i64 1)
theorem pick_list (n:Nat) (Pj:Nat→Nat→Prop) (h:∀ j,j<n → ∃ g,Pj j g):∃ gs:List Nat,gs.length=n ∧ ∀ j (hj:j<gs.length),Pj j gs[j]:=by
 induction n with
 | zero=>exact⟨[],rfl,fun j hj=>by simp at hj⟩
 | succ n ih =>
  obtain⟨gs,h1,h2⟩:=ih (fun j hj=>h j (by omega))
  obtain⟨g,hg⟩:=h n (by omega)
  refine⟨gs ++ [g],by simp[h1],fun j hj=>?_⟩
  by_cases q:j<gs.length
  ·rw[List.getElem_append_left q];exact h2 j q
  ·have e:j=n:=by simp at hj;omega
   subst e
   have:(gs ++ [g])[j]=g:=by rw[List.getElem_append_right (by omega)];simp
   rw[this];exact hg
theorem FitI.done {w:World} {b1 b2 lo:Nat} {ts:List Int} {wr:World} (h:FitI w b1 b2 lo ts ts.length wr):R2 wr (.slice (some ⟨b1,0,none⟩) ts.length ts.length) ts∧I6 wr (.slice (some ⟨b2,0,none⟩) ts.length ts.length) (List.replicate ts.length 1):=by
 obtain⟨Hd,O,hl1,hl2,hF,hr,ho⟩:=h
 constructor
 ·obtain⟨gs,g1,g2⟩:=pick_list ts.length (fun j g=>∃ h:j<ts.length,Hd[j]? = some (.slice (some ⟨g,0,none⟩) 2 2)∧g<wr.heap.size∧wr.rangeAt g 0 [.int .i64 1, .int .i64 ts[j]]) (fun j hj=>by
   obtain⟨g,q1, -,q3,q4⟩:=hr j hj hj
   exact⟨g,hj,q1,q3,q4⟩)
  refine⟨_,_,gs.map (fun g=>⟨some ⟨g,0,none⟩,2,2⟩),rfl,by simp[g1],⟨fun i hi=>⟨b1,rfl,(hF.least 1 rfl).2,fun j v hv=>?_⟩⟩,fun i hi hi'=>⟨⟨some ⟨gs[i]'(by simpa using hi'),0,none⟩,2,by simp,⟨fun j hj=>?_⟩⟩,by simp⟩⟩
  ·have hi':i<gs.length:=by simpa using hi
   obtain⟨-,q1, -⟩:=g2 i hi'
   match j,hv with
   | 0,hv =>
    cases hv
    have:=(hF.get 1 rfl) i _ q1
    rw[Nat.zero_add] at this
    rw[Nat.mul_one,Nat.add_zero]
    simpa using this
  ·obtain⟨hi2, -,q2,q3⟩:=g2 i (by simpa using hi')
   refine⟨gs[i]'(by simpa using hi'),rfl,q2,fun m v hv=>?_⟩
   match m,hv with
   | 0,hv =>
    cases hv
    rw[Nat.mul_one,Nat.add_zero]
    have e:=q3 j (.int .i64 ([1,ts[i]][j]'hj)) (by
     match j,hj with
     | 0,_=>rfl
     | 1,_=>rfl)
    rwa [Nat.zero_add] at e
 ·refine⟨_,_,by rw[List.length_replicate],⟨fun i hi=>⟨b2,rfl,(hF.least 0 rfl).2,fun j v hv=>?_⟩⟩⟩
  have hi':i<ts.length:=by simpa using hi
  match j,hv with
  | 0,hv =>
   cases hv
   have:=(hF.get 0 rfl) i _ (ho i hi')
   rw[Nat.zero_add] at this
   rw[Nat.mul_one,Nat.add_zero,List.getElem_replicate]
   exact this
theorem Fr.swap {w0 w:World} {p q:Nat×List Value} (h:Fr w0 [p,q] w):Fr w0 [q,p] w:=by
 have m:∀ x,x ∈ [q,p]→x ∈ [p,q]:=fun x hx=>by simp only[List.mem_cons,List.not_mem_nil,or_false] at hx ⊢;exact hx.symm
 refine⟨h.below,fun x hx=>h.lo x (m x hx),fun x hx=>h.hi x (m x hx),?_,fun x hx=>h.row x (m x hx),fun x hx=>h.th x (m x hx)⟩
 have:=h.nd
 simp only[List.map_cons,List.map_nil,List.nodup_cons,List.mem_cons,List.not_mem_nil,or_false,not_false_eq_true,List.nodup_nil,and_true] at this ⊢
 exact fun e=>this e.symm
theorem FitI.step {w:World} {b1 b2 lo:Nat} {ts:List Int} {i:Nat} {wr:World} (h:FitI w b1 b2 lo ts i wr) (hi:i<ts.length) (h1:b1<lo) (h2:b2<lo) (hlo:lo≤wr.heap.size) :
  FitI w b1 b2 lo ts (i+1) (((wr.alloc (.cells #[.int .i64 1, .int .i64 ts[i]] 2)).setCell ⟨b1,i,none⟩ (.slice (some ⟨wr.heap.size,0,none⟩) 2 2)).setCell ⟨b2,i,none⟩ (.int .i64 1)):=by
 obtain⟨Hd,O,hl1,hl2,hF,hr,ho⟩:=h
 have ba:=(Below.refl _ wr).alloc (Nat.le_refl _) (.cells #[.int .i64 1, .int .i64 ts[i]] 2)
 have nw:=rangeAt_new wr [.int .i64 1, .int .i64 ts[i]] 2
 have F1:=(hF.call ba).put1 1 rfl i (.slice (some ⟨wr.heap.size,0,none⟩) 2 2) (by show i<Hd.length;omega)
 have F2:=F1.put1 0 rfl i (.int .i64 1) (by show i<O.length;omega)
 have ap:∀ g vs,lo≤g→(wr.alloc (.cells #[.int .i64 1, .int .i64 ts[i]] 2)).rangeAt g 0 vs→(((wr.alloc (.cells #[.int .i64 1, .int .i64 ts[i]] 2)).setCell ⟨b1,i,none⟩ (.slice (some ⟨wr.heap.size,0,none⟩) 2 2)).setCell ⟨b2,i,none⟩ (.int .i64 1)).rangeAt g 0 vs:=fun g vs hg hR j v hv=>by
  rw[World.cell?_of_block (a:=⟨g,0+j,none⟩) ((heap_other (show g≠b2 by omega)).trans (heap_other (show g≠b1 by omega)))]
  exact hR j v hv
 refine⟨Hd.set i (.slice (some ⟨wr.heap.size,0,none⟩) 2 2),O.set i (.int .i64 1),by simpa using hl1,by simpa using hl2,F2,fun j hj hji=>?_,fun j hji=>?_⟩
 ·by_cases q:j=i
  ·subst q
   exact⟨wr.heap.size,by simp[show j<Hd.length by omega],hlo,by simp,ap _ _ hlo nw⟩
  ·obtain⟨g,q1,q2,q3,q4⟩:=hr j hj (by omega)
   exact⟨g,by rw[List.getElem?_set_ne (fun e=>q e.symm)];exact q1,q2,by simp;omega,ap _ _ q2 (rangeAt_below q4 ba q3)⟩
 ·by_cases q:j=i
  ·subst q
   simp[show j<O.length by omega]
  ·rw[List.getElem?_set_ne (fun e=>q e.symm)];exact ho j (by omega)
theorem RowF.there {w:World} {B g cap:Nat} {rs:List Rat} (h:RowF w B (.slice (some ⟨g,0,none⟩) rs.length cap) rs):w.there g 0 (rs.length*4):=by
 obtain⟨cs,h1,h2, -⟩:=h
 rcases h1.1.2 with⟨e, -⟩|⟨g',cap',cur,e, -,hh,hn, -,hs, -⟩
 ·cases e
 ·injection e with e1 e2 e3
  have e4:g=g':=by injection e1 with e1;injection e1
  subst e4
  intro j hj
  have hlt:j<cur.size:=by
   rw[hs]
   have:=Nat.mul_le_mul_right 4 hn
   omega
  refine⟨?_,?_⟩
  ·simp[World.cell?,hh,hlt]
  ·simp[World.frozen?,hh]
theorem intE_cases (z:Int):(intE z=(z,0) ∧ -9223372036854775808≤z∧z<9223372036854775808)∨(intE z=(0,16)∧¬ (-9223372036854775808≤z∧z<9223372036854775808)):=by
 unfold intE
 split
 ·rename_i h;exact Or.inl ⟨rfl,h⟩
 ·rename_i h;exact Or.inr ⟨rfl,h⟩
theorem fit_any (V1 V2:Value) (ts vs:List Int) (w:World) (h1:I6 w V1 ts) (h2:I6 w V2 vs) (hl:vs.length=ts.length) (hn:ts.length≤9) (hD:0<Ls.D (Mo.tF ts) ts.length)
  (ht:∀ x∈ts, -1099511627776≤x∧x≤1099511627776) (hv:∀ x∈vs, -1099511627776≤x∧x≤1099511627776) :
  Calls Tryz.prog 48 #[V1,V2] w fun e w'=>e = .returned (.tuple #[.int .i64 (Mo.fitE ts vs).1, .int .i64 (Mo.fitE ts vs).2.1, .int .i64 (Mo.fitE ts vs).2.2])∧Below w.heap.size w w':=by
 have h0:0<ts.length:=by
  rcases Nat.eq_zero_or_pos ts.length with e|e
  ·rw[e] at hD;simp[Ls.D,Ls.S] at hD
  ·exact e
 obtain⟨A1,cp1,rfl, -⟩:=id h1
 obtain⟨A2,cp2,rfl, -⟩:=id h2
 have LE:=Lib.hid (fun V1 V3 w' (hb:Below w.heap.size w w') (g1:R2 w' V1 ts) (g3:I6 w' V3 (List.replicate ts.length 1))=>least_any V1 _ V3 ts vs w' g1 (h2.below hb) g3 hl hn hD ht hv)
 obtain⟨L0,L1⟩:=sol_len hl (by omega) ht hv hD h0
 obtain⟨p0,hp0⟩:∃ q:Rat,q=Ls.x0 (Mo.tF ts) (Mo.tF vs) ts.length:=⟨_,rfl⟩
 obtain⟨p1,hp1⟩:∃ q:Rat,q=Ls.x1 (Mo.tF ts) (Mo.tF vs) ts.length:=⟨_,rfl⟩
 rw[← hp0] at L0 LE
 rw[← hp1] at L1 LE
 have fe:Mo.fitE ts vs=if (intE (Ls.roundR p0)).2=0 then((intE (Ls.roundR p0)).1,(intE (Ls.roundR (p1*86400000000))).1,(intE (Ls.roundR (p1*86400000000))).2) else(0,0,(intE (Ls.roundR p0)).2):=by
  unfold Mo.fitE
  rw[← hp0,← hp1]
  rcases intE_cases (Ls.roundR p0) with⟨e1,c1⟩|⟨e1,c1⟩ <;> rcases intE_cases (Ls.roundR (p1*86400000000)) with⟨e2,c2⟩|⟨e2,c2⟩ <;> simp[e1,e2,c1,c2]
 have LD:FL (p1*86400000000) 30:=L1.mul (FL.int (t:=86400000000) (L:=2) (canon_len 2 _ (by decide)) (by decide)) |>.mono (by decide)
 have LDy:FL ((86400000000:Int):Rat) 2:=FL.int (canon_len 2 _ (by decide)) (by decide)
 have MU:=Lib.hid (fun V1 V2 w' (g1:FracR 0 w' V1 p1) (g2:FracR 0 w' V2 ((86400000000:Int):Rat))=>fmul_any V1 V2 p1 _ w' g1 g2 (L1.mono (by decide)) (LDy.mono (by decide)))
 have RA:=Lib.hid (fun V w' (g:FracR 0 w' V p0)=>rounded_any V p0 w' g (L0.mono (by decide)))
 have RB:=Lib.hid (fun V w' (g:FracR 0 w' V (p1*86400000000))=>rounded_any V _ w' g (LD.mono (by decide)))
 rw[fe]
 obtain⟨pd,hpd⟩:∃ q:Rat,q=p1*86400000000:=⟨_,rfl⟩
 have em:p1*((86400000000:Int):Rat)=pd:=by rw[hpd];rfl
 rw[em] at MU
 rw[← hpd] at RB ⊢
 obtain⟨dy,hdy⟩:∃ q:Rat,q=((86400000000:Int):Rat):=⟨_,rfl⟩
 rw[← hdy] at MU
 generalize Ls.roundR p0=z0 at *
 generalize Ls.roundR pd=z1 at *
 generalize hi1:(intE z1).1=r1 at *
 generalize hi2:(intE z1).2=r2 at *
 generalize hi3:(intE z0).1=a1 at *
 generalize hi4:(intE z0).2=a2 at *
 have H1:=Lib.hid h1
 have ML:=Lib.hid (make_i6 ts.length (by omega))
 have MS:=Lib.hid (make_s6 ts.length (by omega))
 have HDY:=Lib.hid hdy
 have n9:(ts.length:Int)≤9:=by omega
 clear h1 h2 hl hn hD ht hv h0 L0 L1 hp0 hp1 fe LD LDy hpd em hdy hi1 hi2 hi3 hi4
 obtain⟨n,hn⟩:∃ n,n=ts.length:=⟨_,rfl⟩
 simp only[← hn] at ML MS H1 LE n9 ⊢
 have HN:=Lib.hid hn
 clear hn
 go_enter Tryz.func48,Tryz.ntmps48
 go_upto_region 1 with fail
 go_cut [7,8] (fun p o wx=>∃ b1 b2,p = .slice (some ⟨b1,0,none⟩) n n∧o = .slice (some ⟨b2,0,none⟩) n n∧FitI w b1 b2 (w.heap.size+2) ts 0 wx∧b1<w.heap.size+2∧b2<w.heap.size+2∧w.heap.size+2≤wx.heap.size)
 case first =>
  refine TillSt.start (fun w'=>True) 7 (by kernel_rfl) (trivial) (fun hHeld=>?_)
  refine TillSt.tP 0 (fun _=>hHeld) ?_
  refine TillSt.tP 1 (fun _=>hHeld) ?_
  refine TillSt.tP 3 (fun _=>hHeld) ?_
  refine TillSt.tP 4 (fun _=>hHeld) ?_
  refine TillSt.nx [2,5] ?_
  refine NextSt.cons rfl (fun K' hK=>?_) (NextSt.cons rfl (fun K' hK=>?_) NextSt.nil)
  ·
   clear hHeld
   have mk:=MS.out
   go_simp
   clear mk
   refine hK.out _ _ (trivial) (fun hHeld=>?_)
   clear hK
   try simp only[Act.put,Lw.s1,Lw.s2,Lw.s3]
   refine TillSt.tP 6 (fun _=>hHeld) ?_
   refine TillSt.nx [5] ?_
   refine NextSt.cons rfl (fun K' hK=>?_) NextSt.nil
   clear hHeld
   have mk:=ML.out
   go_simp
   clear mk
   refine hK.out _ _ (trivial) (fun hHeld=>?_)
   clear hK
   try simp only[Act.put,Lw.s1,Lw.s2,Lw.s3]
   refine TillSt.nx [7] ?_
   refine NextSt.last rfl (by kernel_rfl) (fun K' hK=>?_) NextSt.nil
   clear hHeld
   go_simp
   refine hK.out _ _ ?_
   clear hK
   try simp only[Act.put,Lw.s1,Lw.s2,Lw.s3]
   refine TillSt.done (by kernel_rfl) ?_ _
   have F0:=(Fr.start w).drew
   have F1:=F0.alloc (List.replicate n (.slice none 0 0)) 50
   have F2:=F1.alloc (List.replicate n (.int .i64 0)) 2
   simp only[World.size_alloc] at F2
   have st:=Lib.hid (show FitI w (w.drew.heap.size) (w.drew.heap.size+1) (w.heap.size+2) ts 0 _ from⟨_,_,by rw[List.length_replicate,HN.out],by rw[List.length_replicate,HN.out],F2,fun j _ q=>absurd q (by omega),fun j q=>absurd q (by omega)⟩)
   clear F0 F1 F2
   go_wp2_with fail
   go_meet
   case rel=>exact⟨_,_,rfl,rfl,st.out,by(simp[World.drew];try omega),by(simp[World.drew];try omega),by(simp[World.drew];try omega)⟩
  ·
   clear hHeld
   have mk:=ML.out
   go_simp
   clear mk
   refine hK.out _ _ (trivial) (fun hHeld=>?_)
   clear hK
   try simp only[Act.put,Lw.s1,Lw.s2,Lw.s3]
   refine TillSt.nx [2] ?_
   refine NextSt.cons rfl (fun K' hK=>?_) NextSt.nil
   clear hHeld
   have mk:=MS.out
   go_simp
   clear mk
   refine hK.out _ _ (trivial) (fun hHeld=>?_)
   clear hK
   try simp only[Act.put,Lw.s1,Lw.s2,Lw.s3]
   refine TillSt.tP 6 (fun _=>hHeld) ?_
   refine TillSt.nx [7] ?_
   refine NextSt.last rfl (by kernel_rfl) (fun K' hK=>?_) NextSt.nil
   clear hHeld
   go_simp
   refine hK.out _ _ ?_
   clear hK
   try simp only[Act.put,Lw.s1,Lw.s2,Lw.s3]
   refine TillSt.done (by kernel_rfl) ?_ _
   have F0:=(Fr.start w).drew
   have F1:=F0.alloc (List.replicate n (.int .i64 0)) 2
   have F2:=F1.alloc (List.replicate n (.slice none 0 0)) 50
   simp only[World.size_alloc] at F2
   have F3:Fr w [(w.drew.heap.size,List.replicate n (.int .i64 0)),(w.drew.heap.size+1,List.replicate n (.slice none 0 0))] _:=Fr.swap F2
   have st:=Lib.hid (show FitI w (w.drew.heap.size+1) (w.drew.heap.size) (w.heap.size+2) ts 0 _ from⟨_,_,by rw[List.length_replicate,HN.out],by rw[List.length_replicate,HN.out],F3,fun j _ q=>absurd q (by omega),fun j q=>absurd q (by omega)⟩)
   clear F0 F1 F2 F3
   go_wp2_with fail
   go_meet
   case rel=>exact⟨_,_,rfl,rfl,st.out,by(simp[World.drew];try omega),by(simp[World.drew];try omega),by(simp[World.drew];try omega)⟩
 case rest =>
  obtain⟨b1,b2,rfl,rfl,hF,hb1,hb2,hlo⟩:=hcut
  clear MS ML
  go_wp2_with fail
  go_loopw [9,10,22] (fun _ _ i wr=>∃ k:Nat,k≤n∧i = .int .i64 k∧Hid (FitI w b1 b2 (w.heap.size+2) ts k wr∧w.heap.size+2≤wr.heap.size)) (fun _ _ i _=>n-(intOf i).toNat)
  case atStart=>exact⟨0,by omega,rfl,Lib.hid ⟨hF,hlo⟩⟩
  case round =>
   clear hF hlo
   obtain⟨k,hk,rfl,hS⟩:=hrel
   by_cases hkn:k<n
   ·have i1:(k:Int)<(n:Int):=by omega
    have hkt:k<ts.length:=by rw[← HN.out];exact hkn
    obtain⟨gT,rfl,ltT,cT⟩:=H1.out.cell hkt
    have st:=Lib.hid (hS.out.1.step hkt hb1 hb2 hS.out.2)
    have ss:=Lib.hid hS.out.2
    obtain⟨Hd,O,hl1,hl2,hF, -, -⟩:=hS.out.1
    replace cT:=(hF.below.cell (p:=⟨gT,k,none⟩) ltT).trans cT
    obtain⟨x,hx⟩:∃ x,x=ts[k]:=⟨_,rfl⟩
    rw[← hx] at cT st
    have F1:=hF.call ((Below.refl _ wr).alloc (Nat.le_refl _) (.cells #[.int .i64 1, .int .i64 x] 2))
    obtain⟨u1,e1⟩:∃ v,Hd[k]? = some v:=⟨Hd[k]'(by omega),by simp[show k<Hd.length by omega]⟩
    obtain⟨u2,e2⟩:∃ v,O[k]? = some v:=⟨O[k]'(by omega),by simp[show k<O.length by omega]⟩
    have c1:=F1.cell 1 k rfl e1
    have f1:=F1.fz 1 k rfl e1
    have F2:=F1.put1 1 rfl k (.slice (some ⟨wr.heap.size,0,none⟩) 2 2) (by show k<Hd.length;omega)
    have c2:=F2.cell 0 k rfl e2
    have f2:=F2.fz 0 k rfl e2
    clear hF F1 F2 hl1 hl2 e1 e2 hx hS
    go_wp2_with fail
    go_roundw
    case rel=>exact⟨k+1,by omega,by simp,Lib.hid ⟨st.out,by simp;have:=ss.out;omega⟩⟩
    case measure=>simp[intOf];omega
   ·obtain rfl:k=n:=by omega
    rw[HN.out] at hS
    have hd:=Lib.hid hS.out.1.done
    obtain⟨_,_, -, -,hF, -, -⟩:=hS.out.1
    have LL:=Lib.hid (LE.out _ _ _ hF.below (by rw[← HN.out] at hd;exact hd.out.1) (by rw[← HN.out] at hd;exact hd.out.2))
    have BW:=Lib.hid hF.below
    clear hF hd hS LE H1
    go_wp2_with fail
    refine LL.out.mono ?_
    rintro e w3 ⟨X,S,sr,rfl,hX,hSr,hb⟩
    have B3:=BW.out.trans (hb.mono BW.out.size)
    have b9:=(Below.refl _ w3).alloc (Nat.le_refl _) (.cells (fcE S).toArray 68)
    have HX:=Lib.hid (hX.below b9)
    have BB:=Lib.hid (B3.trans (b9.mono B3.size))
    have LW:=Lib.hid BW.out.size
    clear hX hSr hb B3 b9 LL BW
    go_wp2_with fail
    refine(of_any 86400000000 1 _ (by decide) (by decide) (by decide) (by decide)).mono ?_
    rintro e w5 ⟨V5,rfl,hV5,hb⟩
    obtain⟨y5,rfl,hy5⟩:=hV5.cells
    rw[show Int.toNat 1=1 from rfl,Rat.mkRat_one,← HDY.out] at hy5
    have ba:=(Below.refl _ w5).alloc (Nat.le_refl _) (.cells (fcE y5).toArray 68)
    have hX:=(HX.out.below hb).below ba
    obtain⟨gX,cX,xa,xb,rfl,hBX,ltX,qX0,qX1,fX0,fX1,oX0, -⟩:=hX.two
    have hlt:(w5.alloc (.cells (fcE y5).toArray 68)).there gX 0 8:=RowF.there (rs:=[p0,p1]) hX
    have BW:=(BB.out.trans (hb.mono BB.out.size))
    have BC:=BW.trans (ba.mono BW.size)
    have hy:=(hy5.mono (B':=0) (Nat.zero_le _)).below ba
    have FY:=(Fr.start w5).alloc (fcE y5) 68
    obtain⟨bD,hbD⟩:∃ b,b=w5.heap.size:=⟨_,rfl⟩
    have lw:=BB.out.size
    go_upto_region 13 with fail
    obtain⟨w6,hw6⟩:∃ W,W=w5.alloc (.cells #[.bool y5.s, .slice y5.a y5.k y5.c, .bool false, .slice y5.a' y5.k' y5.c'] 68):=⟨_,rfl⟩
    have e6:w5.alloc (.cells (fcE y5).toArray 68)=w6:=hw6.symm
    rw[← hw6,← hbD]
    rw[e6] at hlt ltX qX0 qX1 fX0 fX1 BC hy FY
    rw[← hbD] at FY
    have QX0:=Lib.hid (fun w' (hb:Below w6.heap.size w6 w')=>rangeAt_below qX0 hb ltX)
    have QX1:=Lib.hid (fun w' (hb:Below w6.heap.size w6 w')=>rangeAt_below qX1 hb ltX)
    have TX:=Lib.hid (fun w' (hb:Below w6.heap.size w6 w')=>there_below hlt hb ltX)
    have FX0:=Lib.hid fX0
    have FX1:=Lib.hid (fX1.mono (Nat.zero_le _))
    have OX0:=Lib.hid oX0
    have HY:=Lib.hid hy
    have YC:=Lib.hid (fun w' (hb:Below w6.heap.size w6 w')=>FY.call hb)
    have BC':=Lib.hid BC
    have LX':=Lib.hid ltX
    have WX:=Lib.hid (show w.heap.size≤gX from Nat.le_trans LW.out hBX)
    clear hV5 hy5 hb ba hX hlt hBX ltX qX0 qX1 fX0 fX1 oX0 BW BC hy FY hbD lw hw6 e6 HX BB HDY
    have BN:=Lib.hid (Below.refl w6.heap.size w6).drew
    refine TillSt.start (fun w'=>(w'.cell? ⟨gX,4,none⟩=some (.bool xb.s)∧w'.cell? ⟨gX,5,none⟩=some (.slice xb.a xb.k xb.c)∧w'.cell? ⟨gX,6,none⟩=some (.bool false)∧w'.cell? ⟨gX,7,none⟩=some (.slice xb.a' xb.k' xb.c'))∧(w'.cell? ⟨bD,0,none⟩=some (.bool y5.s)∧w'.cell? ⟨bD,1,none⟩=some (.slice y5.a y5.k y5.c)∧w'.cell? ⟨bD,2,none⟩=some (.bool false)∧w'.cell? ⟨bD,3,none⟩=some (.slice y5.a' y5.k' y5.c'))) 10 (by kernel_rfl) (⟨⟨QX1.out _ BN.out 0 _ rfl,QX1.out _ BN.out 1 _ rfl,QX1.out _ BN.out 2 _ rfl,QX1.out _ BN.out 3 _ rfl⟩,(YC.out _ BN.out).cell 0 0 rfl rfl,(YC.out _ BN.out).cell 0 1 rfl rfl,(YC.out _ BN.out).cell 0 2 rfl rfl,(YC.out _ BN.out).cell 0 3 rfl rfl⟩) (fun hHeld=>?_)
    generalize w6.drew=wd at *
    refine TillSt.tP 0 (fun _=>hHeld) ?_
    refine TillSt.tP 1 (fun _=>hHeld) ?_
    refine TillSt.tP 2 (fun _=>hHeld) ?_
    refine TillSt.tL 3 hHeld (hy:=Or.inl ⟨by rfl,by intro w hSw;obtain⟨⟨q1,q2,q3,q4⟩, -⟩:=hSw;go_simp;try with_reducible rfl⟩) (h:=?_)
    refine TillSt.tL 4 hHeld (hy:=Or.inl ⟨by rfl,by intro w hSw;obtain⟨-,q1,q2,q3,q4⟩:=hSw;go_simp;try with_reducible rfl⟩) (h:=?_)
    refine TillSt.nx [5] ?_
    refine NextSt.cons rfl (fun K' hK=>?_) NextSt.nil
    clear hHeld
    go_simp
    refine(MU.out _ _ _ (FX1.out.below BN.out).frac (HY.out.below BN.out).frac).mono ?_
    rintro e wo ⟨Vo,rfl,hVo,hb⟩
    obtain⟨zf,rfl,hz⟩:=hVo.cells
    have HZ:=Lib.hid hz
    have LZ:=Lib.hid (Nat.lt_of_lt_of_le LX'.out BN.out.size)
    replace BN:=Lib.hid (BN.out.trans (hb.mono BN.out.size))
    clear hVo hz hb MU HY FX1
    refine hK.out _ _ (⟨⟨QX1.out _ BN.out 0 _ rfl,QX1.out _ BN.out 1 _ rfl,QX1.out _ BN.out 2 _ rfl,QX1.out _ BN.out 3 _ rfl⟩,(YC.out _ BN.out).cell 0 0 rfl rfl,(YC.out _ BN.out).cell 0 1 rfl rfl,(YC.out _ BN.out).cell 0 2 rfl rfl,(YC.out _ BN.out).cell 0 3 rfl rfl⟩) (fun hHeld=>?_)
    clear hK
    try simp only[Act.put,Lw.s1,Lw.s2,Lw.s3]
    refine TillSt.tP 6 (fun _=>hHeld) ?_
    refine TillSt.tP 7 (fun _=>hHeld) ?_
    refine TillSt.tP 8 (fun _=>hHeld) ?_
    refine TillSt.tP 9 (fun _=>hHeld) ?_
    refine TillSt.nx [10] ?_
    refine NextSt.last rfl (by kernel_rfl) (fun K' hK=>?_) NextSt.nil
    have s0:=QX1.out _ BN.out 0 _ rfl
    have s1:=QX1.out _ BN.out 1 _ rfl
    have s2:=QX1.out _ BN.out 2 _ rfl
    have s3:=QX1.out _ BN.out 3 _ rfl
    have t0:=(TX.out _ BN.out 4 (by decide)).2
    have t1:=(TX.out _ BN.out 5 (by decide)).2
    have t2:=(TX.out _ BN.out 6 (by decide)).2
    have t3:=(TX.out _ BN.out 7 (by decide)).2
    simp only[Nat.zero_add,Nat.reduceAdd,Nat.add_zero] at s0 s1 s2 s3 t0 t1 t2 t3
    clear hHeld
    go_simp
    clear s0 s1 s2 s3 t0 t1 t2 t3
    refine hK.out _ _ ?_
    clear hK
    try simp only[Act.put,Lw.s1,Lw.s2,Lw.s3]
    refine TillSt.tP 11 (fun q=>by cases q) ?_
    refine TillSt.done (by kernel_rfl) ?_ _
    have q1:=World.rangeAt_setCells_same wo gX 4 (fcE zf) (fun j hj=>by have h8:j<4:=hj;have:=TX.out _ BN.out (4+j) (by omega);rwa [Nat.zero_add] at this)
    have q0:=World.rangeAt_setCells_apart (QX0.out _ BN.out) gX 4 (fcE zf) (Or.inr (Or.inl (Nat.le_refl 4)))
    have g0:=((FX0.out.below BN.out).set OX0.out 4 (fcE zf)).mono (Nat.zero_le _)
    have g1:=((HZ.out.set (HZ.out.newer LZ.out) 4 (fcE zf))).mono (Nat.zero_le _)
    have bw:=below_setCells gX WX.out (fcE zf) 4 _ (BC'.out.trans (BN.out.mono BC'.out.size))
    have GL:=Lib.hid (Nat.lt_of_lt_of_le LX'.out BN.out.size)
    clear BN HZ LZ QX0 QX1 TX FX0 OX0 YC BC' LX' WX
    have lt8:gX<(wo.setCells gX 4 (fcE zf)).heap.size:=by rw[sizes];exact GL.out
    obtain⟨w8,hw8⟩:∃ W,W=wo.setCells gX 4 (fcE zf):=⟨_,rfl⟩
    have e8:(((wo.setCell ⟨gX,4,none⟩ (.bool zf.s)).setCell ⟨gX,5,none⟩ (.slice zf.a zf.k zf.c)).setCell ⟨gX,6,none⟩ (.bool false)).setCell ⟨gX,7,none⟩ (.slice zf.a' zf.k' zf.c')=w8:=hw8.symm
    rw[e8]
    rw[← hw8] at q0 q1 g0 g1 bw lt8
    clear e8 hw8
    have c0:=q0 0 _ rfl
    have c1:=q0 1 _ rfl
    have c2:=q0 2 _ rfl
    have c3:=q0 3 _ rfl
    simp only[Nat.zero_add,Nat.reduceAdd,Nat.add_zero] at c0 c1 c2 c3
    have HA:=Lib.hid (RA.out _ _ g0.frac)
    have DX:=Lib.hid (fun w' (hb:Below w8.heap.size w8 w')=>rangeAt_below q1 hb lt8)
    have G1:=Lib.hid g1
    have BW:=Lib.hid bw
    clear q0 q1 g0 g1 bw lt8 RA GL
    go_wp2_with fail
    clear c0 c1 c2 c3
    refine HA.out.mono ?_
    rintro e w9 ⟨rfl,hb⟩
    have B9:=Lib.hid (BW.out.trans (hb.mono BW.out.size))
    by_cases h2:a2=0
    ·subst h2
     have d0:=DX.out _ hb 0 _ rfl
     have d1:=DX.out _ hb 1 _ rfl
     have d2:=DX.out _ hb 2 _ rfl
     have d3:=DX.out _ hb 3 _ rfl
     simp only[Nat.zero_add,Nat.reduceAdd,Nat.add_zero] at d0 d1 d2 d3
     have HB:=Lib.hid (RB.out _ _ (G1.out.below hb).frac)
     clear hb DX G1 BW RB HA
     go_wp2_with fail
     clear d0 d1 d2 d3
     refine HB.out.mono ?_
     rintro e w10 ⟨rfl,hb⟩
     have B10:=Lib.hid (B9.out.trans (hb.mono B9.out.size))
     clear hb HB B9
     go_wp2_with fail
     refine bodyPost_ret (results_tmp3 rfl _ _ _) rfl ?_
     exact⟨by first|rfl|(rw[if_pos rfl];rfl),B10.out⟩
    ·have h2b:(a2==0)=false:=by simpa using h2
     clear hb DX G1 BW RB HA
     go_wp2_with fail
     refine bodyPost_ret (results_tmp3 rfl _ _ _) rfl ?_
     exact⟨by first|rfl|(rw[if_neg h2];rfl),B9.out⟩
end Wd
namespace Mo
theorem mid_bd {T:List Int} (h0:0<T.length):lo T≤midT T∧midT T≤hi T:=by
 have:=lo_le h0
 have:=le_hi h0
 unfold midT
 omega
theorem tF_map {T:List Int} {m:Int} {i:Nat} (h:i<T.length):tF (T.map (· - m)) i=T[i]-m:=by
 rw[tF,getD_get (by simpa using h)]
 simp
theorem mv_facts {T:List Int} (h0:0<T.length) (hne:hi T≠lo T) (hsp:¬ 172800000000<hi T-lo T) :
  0<Ls.D (tF (T.map (· - midT T))) (T.map (· - midT T)).length∧(∀ x∈T.map (· - midT T), -1099511627776≤x∧x≤1099511627776) ∧
  ∀ vs:List Int,vs.length=T.length→T.length≤9→(∀ v∈vs, -648000000000≤v∧v≤648000000000) → -53136000000000≤(fitE (T.map (· - midT T)) vs).1∧(fitE (T.map (· - midT T)) vs).1≤53136000000000:=by
 obtain⟨i,hi',ei⟩:=lo_at h0
 obtain⟨j,hj',ej⟩:=hi_at h0
 obtain⟨m1,m2⟩:=mid_bd h0
 have ti:=tF_map (m:=midT T) hi'
 have tj:=tF_map (m:=midT T) hj'
 have all:∀ k,(h:k<T.length)→lo T≤T[k]∧T[k]≤hi T:=fun k h=>⟨lo_le h,le_hi h⟩
 refine⟨?_,fun x hx=>?_,fun vs hl hn hv=>?_⟩
 ·rw[List.length_map]
  exact Ls.D_pos hi' hj' (by rw[ti,tj];omega)
 ·obtain⟨y,hy,rfl⟩:=List.mem_map.1 hx
  obtain⟨k,hk,rfl⟩:=List.getElem_of_mem hy
  have:=all k hk
  omega
 ·have B:=Ls.x0_bound (t:=tF (T.map (· - midT T))) (v:=tF vs) (n:=T.length) (s:=(hi T-lo T).natAbs) (V:=648000000000) (i:=i) (j:=j) h0 (by omega) (fun a b ha hb=>by
   rw[tF_map ha,tF_map hb];have:=all a ha;have:=all b hb;omega) hi' hj' (by rw[ti,tj];omega) (fun a ha=>by
   rw[tF_map ha];have:=all a ha;omega) (fun a ha=>by
   have:=hv _ (List.getElem_mem (show a<vs.length by omega))
   rw[tF,getD_get (by omega)];omega)
  have R:=Ls.roundR_bound B.1 B.2
  have n2:T.length*T.length≤81:=Nat.mul_le_mul hn hn
  have n3:=Nat.mul_le_mul_right 648000000000 n2
  have R':-53136000000000≤Ls.roundR (Ls.x0 (tF (T.map (· - midT T))) (tF vs) T.length)∧Ls.roundR (Ls.x0 (tF (T.map (· - midT T))) (tF vs) T.length)≤53136000000000:=by
   obtain⟨r1,r2⟩:=R
   rw[Int.natCast_add,Int.natCast_mul,Int.natCast_mul] at r1 r2
   have n4:(T.length:Int)*(T.length:Int)≤81:=by
    have:=Int.ofNat_le.2 n2
    rwa [Int.natCast_mul] at this
   have e:((648000000000:Nat):Int)=648000000000:=rfl
   rw[e] at r1 r2
   generalize (T.length:Int)*(T.length:Int)=q at *
   omega
  unfold fitE
  rw[List.length_map]
  dsimp only
  split
  ·split
   ·exact R'
   ·exact R'
  ·show (-53136000000000:Int)≤0∧(0:Int)≤53136000000000
   omega
theorem moved_eq {T R D:List Int} (h1:¬ 172800000000<hi T-lo T) (h2:¬ hi T=lo T) {a1 a2 a3 d1 d2 d3:Int} (ha:fitE (T.map (· - midT T)) R=(a1,a2,a3)) (hd:fitE (T.map (· - midT T)) D=(d1,d2,d3)) :
  moved T R D=if a3≠0 then .error 16 else if d3≠0∨¬ inR ⟨midT T,a1,d1,a2,d2⟩ then .error 16 else .ok ⟨midT T,a1,d1,a2,d2⟩:=by
 unfold moved
 rw[if_neg h1,if_neg h2]
 simp only[ha,hd]
def sh (T:List Int) (m:Int) (k:Nat):List Int:=(T.take k).map (· - m)++T.drop k
theorem sh_len (T:List Int) (m:Int) (k:Nat):(sh T m k).length=T.length:=by simp[sh];omega
theorem sh_zero (T:List Int) (m:Int):sh T m 0=T:=by simp[sh]
theorem sh_all (T:List Int) (m:Int):sh T m T.length=T.map (· - m):=by simp[sh]
theorem sh_get {T:List Int} {m:Int} {k:Nat} (h:k<T.length):(sh T m k)[k]? = some T[k]:=by
 rw[sh,List.getElem?_append_right (by simp;omega)]
 have e:k-((T.take k).map (· - m)).length=0:=by simp;omega
 rw[e]
 simp[h]
theorem sh_set {T:List Int} {m:Int} {k:Nat} (h:k<T.length):(sh T m k).set k (T[k]-m)=sh T m (k+1):=by
 apply List.ext_getElem?
 intro i
 rw[List.getElem?_set]
 unfold sh
 rcases Nat.lt_trichotomy i k with q|q|q
 ·rw[if_neg (by omega),List.getElem?_append_left (by simp;omega),List.getElem?_append_left (by simp;omega)]
  simp[q,show i<k+1 by omega]
 ·subst q
  rw[if_pos rfl,List.getElem?_append_left (by simp;omega)]
  simp[h];omega
 ·rw[if_neg (by omega),List.getElem?_append_right (by simp;omega),List.getElem?_append_right (by simp;omega)]
  simp[Nat.min_eq_left (Nat.le_of_lt h),Nat.min_eq_left (show k+1≤T.length by omega)]
  congr 1;omega
end Mo
namespace Wd
open Go.RowKit Lw Tw Tk _root_.Go.Proofs.YtdnogmanbdgadaaGreatDoor.Op Ow

theorem iE_one (p:Int):∀ u∈iE p,u.oneCell'=true:=fun u hu=>by
 simp only[List.mem_cons,List.not_mem_nil,or_false] at hu
 subst hu;rfl
def Dj (u v:Value):Prop:=∀ g,u.ownBlock=some g→v.ownBlock≠some g
theorem Dj.symm {u v:Value} (h:Dj u v):Dj v u:=fun g e q=>h g q e
theorem Dj.nil (v:Value):Dj (.slice none 0 0) v:=fun g e=>by cases e
abbrev OwnI (w:World) (B:Nat) (v:Value) (l:List Int):Prop:=OwnG 2 1 iE w B v l
theorem OwnI.keep {w w':World} {B:Nat} {v u:Value} {l:List Int} (h:OwnI w B v l) (hg:w.grownBy w' u.ownBlock) (hd:Dj v u) (hs:B≤w'.heap.size):OwnI w' B v l :=
 ⟨h.1.kept hg (by
  cases e:v.ownBlock with
  | none=>exact Or.inl rfl
  | some g=>exact Or.inr (fun q=>hd g e (by rw[← q]))),hs⟩
abbrev i6L (l:List Int):List Value:=l.map fun z=>.int .i64 z
theorem flat_i6 (l:List Int):l.flatMap iE=i6L l:=by
 induction l with
 | nil=>rfl
 | cons a l ih=>rw[List.flatMap_cons,ih];rfl
theorem OwnI.opens {w:World} {B:Nat} {v:Value} {l:List Int} (h:OwnI w B v l) (h0:0<l.length):∃ g cap,v = .slice (some ⟨g,0,none⟩) l.length cap∧B≤g∧g<w.heap.size∧w.rangeAt g 0 (i6L l)∧w.there g 0 l.length∧v.ownBlock=some g:=by
 have hc:=fun (g:Nat) (hg:v.ownBlock=some g)=>h.1.cells hg
 rcases h.1.2 with⟨e,e2⟩|⟨g,cap,cur,e,hb,hh,hn, -,hs, -⟩
 ·omega
 ·subst e
  have lt:=lt_of_block hh
  refine⟨g,cap,rfl,hb,lt,fun j x hx=>?_,fun j hj=>?_,rfl⟩
  ·rw[← flat_i6] at hx
   have e:=hc g rfl j x hx
   rwa [Addr.add_mid] at e
  ·have hlt:j<cur.size:=by omega
   refine⟨?_,?_⟩
   ·simp[World.cell?,hh,hlt]
   ·simp[World.frozen?,hh]
theorem I6.ofR {w:World} {g n c:Nat} {l:List Int} (hR:w.rangeAt g 0 (i6L l)) (lt:g<w.heap.size) (hn:n=l.length):I6 w (.slice (some ⟨g,0,none⟩) n c) l:=by
 subst hn
 refine⟨_,_,rfl,⟨fun i hi=>⟨g,rfl,lt,fun j v hv=>?_⟩⟩⟩
 match j,hv with
 | 0,hv =>
  cases hv
  have:=hR i (.int .i64 l[i]) (by simp[i6L,hi])
  rw[Nat.zero_add] at this
  rw[Nat.mul_one,Nat.add_zero]
  exact this
structure M3 (B b9:Nat) (o:Ob) (u v t:Value) (a b c:List Int) (w:World):Prop where
 box:w.rangeAt b9 0 (obsC o)
 lt:b9<w.heap.size
 le:B≤b9
 ou:OwnI w B u a
 ov:OwnI w B v b
 ot:OwnI w B t c
 uv:Dj u v
 ut:Dj u t
 vt:Dj v t
 nu:u.ownBlock≠some b9
 nv:v.ownBlock≠some b9
 nt:t.ownBlock≠some b9
theorem M3.rot {B b9:Nat} {o:Ob} {u v t:Value} {a b c:List Int} {w:World} (h:M3 B b9 o u v t a b c w):M3 B b9 o v t u b c a w :=
 ⟨h.box,h.lt,h.le,h.ov,h.ot,h.ou,h.vt,h.uv.symm,h.ut.symm,h.nv,h.nt,h.nu⟩
theorem M3.call {B b9:Nat} {o:Ob} {u v t:Value} {a b c:List Int} {w w':World} (h:M3 B b9 o u v t a b c w) (hb:Below w.heap.size w w'):M3 B b9 o u v t a b c w' :=
 ⟨rangeAt_below h.box hb h.lt,Nat.lt_of_lt_of_le h.lt hb.size,h.le,h.ou.below hb,h.ov.below hb,h.ot.below hb,h.uv,h.ut,h.vt,h.nu,h.nv,h.nt⟩
theorem M3.app {B b9:Nat} {o:Ob} {u v t:Value} {a b c:List Int} {w w':World} {x:Int} {u':Value} (h:M3 B b9 o u v t a b c w) (ho:OwnI w' B u' (a ++ [x])) (hg:w.grownBy w' u.ownBlock) (hat:u'.ownBlock=u.ownBlock∨u'.ownBlock=some w.heap.size) :
  M3 B b9 o u' v t (a ++ [x]) b c w'∧Below B w w':=by
 have hB:B≤w.heap.size:=h.ou.2
 have hb:Below B w w':=(Below.refl B _).grown hg hB (fun k hk=>(h.ou.1.lt k hk).1)
 have ne:∀ y,Dj u y→(∀ g,y.ownBlock=some g→g<w.heap.size)→Dj u' y:=fun y hd hl g e q=>by
  rcases hat with e2|e2
  ·rw[e2] at e;exact hd g e q
  ·rw[e2] at e
   have:=Option.some.inj e
   have:=hl g q
   omega
 have lv:=fun g q=>(h.ov.1.lt g q).2
 have lt':=fun g q=>(h.ot.1.lt g q).2
 refine⟨⟨fun j v hv=>(World.cell?_of_block (a:=⟨b9,0+j,none⟩) (hg.block b9 h.lt (fun e=>h.nu e.symm))).trans (h.box j v hv),Nat.lt_of_lt_of_le h.lt hg.size,h.le,ho,h.ov.keep hg h.uv.symm (Nat.le_trans hB hg.size),h.ot.keep hg h.ut.symm (Nat.le_trans hB hg.size),ne v h.uv lv,ne t h.ut lt',h.vt,?_,h.nv,h.nt⟩,hb⟩
 ·intro e
  rcases hat with e2|e2
  ·exact h.nu (e2 ▸ e)
  ·rw[e2] at e
   have:=Option.some.inj e
   have:=h.lt
   omega
theorem wp_app6 {ops:Array Oper} {rest:List Oper} {o:Oper} {a:Act} {Q:Exit→Act→World→Prop} (w:World) (hgd:o.guard=none) (s x:Operand)
  (ho:o.op = .call { callee:=.builtin .append,args:=#[s,x],argTypes:=#[50,50] })
  (B:Nat) (v:Value) (l:List Int) (q:Int) (hs:a.eval s=v) (hx:a.eval x = .slice (some ⟨w.heap.size,0,none⟩) 1 1) (hown:OwnI w B v l) (hl:l.length≤1000000)
  (h:∀ v' w',OwnI w' B v' (l ++ [q])→(w.alloc (.cells (iE q).toArray 2)).grownBy w' v.ownBlock→(v'.ownBlock=v.ownBlock∨v'.ownBlock=some (w.alloc (.cells (iE q).toArray 2)).heap.size)→wpList Tryz.prog ops Q rest (a.put o.dst v') w'):wpList Tryz.prog ops Q (o::rest) a (w.alloc (.cells (iE q).toArray 2)):=by
 obtain⟨i0,hi,hz0,hz1,hz2⟩:=info_parts info_i6
 have ho':=hown.1.alloc (.cells (iE q).toArray 2)
 have nw:=newsG (rangeAt_new w (iE q) 2)
 have b1:Below B w (w.alloc (.cells (iE q).toArray 2)):=(Below.refl _ _).alloc hown.2 _
 refine wpList_append_own_at _ hgd s x 50 ho B 2 i0 _ 1 8 Tryz.underlying50 hi hz0 hz1 hz2 rfl (by decide) v l.length (l.flatMap iE) hs ho' ⟨w.heap.size,0,none⟩ 1 1 (iE q) hx rfl nw (iE_one q) (by unfold maxLen;omega) (by omega) (Nat.le_trans hown.2 b1.size) ?_
 intro v' w' g1 g2 _ g4
 have e:(l ++ [q]).flatMap iE=l.flatMap iE++iE q:=by simp
 refine h v' w' ⟨?_,Nat.le_trans (Nat.le_trans hown.2 b1.size) g2.size⟩ g2 g4
 rw[e,List.length_append]
 exact g1
def mtT (l:List Ob) (k:Nat):List Int:=(l.take k).map (·.t)
def mtR (l:List Ob) (k:Nat):List Int:=(l.take k).map fun o=>Pl.dif o.ra (l.headD zeroO).ra
def mtD (l:List Ob) (k:Nat):List Int:=(l.take k).map (·.dec)
theorem map_take_succ {α β:Type} {l:List α} {k:Nat} (f:α→β) (h:k<l.length):(l.take (k+1)).map f=(l.take k).map f ++ [f l[k]]:=by
 rw[← List.take_append_getElem h,List.map_append];rfl
theorem mt_len {α β:Type} {l:List α} {k:Nat} (f:α→β) (h:k≤l.length):((l.take k).map f).length=k:=by
 rw[List.length_map,List.length_take];omega
theorem mtT_succ {l:List Ob} {k:Nat} (h:k<l.length):mtT l (k+1)=mtT l k ++ [(l[k]).t]:=map_take_succ _ h
theorem mtR_succ {l:List Ob} {k:Nat} (h:k<l.length):mtR l (k+1)=mtR l k ++ [Pl.dif (l[k]).ra (l.headD zeroO).ra]:=map_take_succ _ h
theorem mtD_succ {l:List Ob} {k:Nat} (h:k<l.length):mtD l (k+1)=mtD l k ++ [(l[k]).dec]:=map_take_succ _ h
def noMv:Mo.Mv:=⟨0,0,0,0,0⟩
def motE (l:List Ob):ByteArray×Mo.Mv×Int :=
 if allT l≠0 then(ByteArray.empty,noMv,allT l) else
 if l.length=0 then(ByteArray.empty,noMv,22) else
 if ∃ o∈l,o.site≠(l.headD zeroO).site then(ByteArray.empty,noMv,2) else
 match Mo.moved (mtT l l.length) (mtR l l.length) (mtD l l.length) with
 | .error e=>(ByteArray.empty,noMv,e)
 | .ok m=>((l.headD zeroO).site,{ m with ra:=((l.headD zeroO).ra+m.ra) % 1296000000000 },0)
end Wd
end Go.Proofs.YtdnogmanbdgadaaGreatDoor
