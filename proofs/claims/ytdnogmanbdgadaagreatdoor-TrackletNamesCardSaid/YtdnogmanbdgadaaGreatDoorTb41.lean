/-
  Lemmas and walks, texts joined: TLPl, TLTPl, VEql, TLAl, TLTW.
-/
import Derived.ChangeKeysEq
import Derived.DeepKeys
import Derived.Test.YtdnogmanbdgadaaGreatDoorTb04
import Derived.Test.YtdnogmanbdgadaaGreatDoorTb27
import Derived.Test.YtdnogmanbdgadaaGreatDoorTb40
import Derived.Test.YtdnogmanbdgadaaGreatDoorTb06
import Derived.Test.YtdnogmanbdgadaaGreatDoorTb07
import Derived.Test.YtdnogmanbdgadaaGreatDoorTb08
set_option linter.unusedSimpArgs false
set_option linter.unusedVariables false
set_option maxRecDepth 100000
set_option maxHeartbeats 40000000
namespace Go.Proofs.YtdnogmanbdgadaaGreatDoor
namespace Tk
open Go.RowKit Lw Tw Wd Go.Proofs.YtdnogmanbdgadaaGreatDoor.Ap Go.Proofs.YtdnogmanbdgadaaGreatDoor.Op Go.Proofs.YtdnogmanbdgadaaGreatDoor.Mp Go.Proofs.YtdnogmanbdgadaaGreatDoor.Mw Go.Proofs.YtdnogmanbdgadaaGreatDoor.At Go.Proofs.YtdnogmanbdgadaaGreatDoor.Ow

theorem kf_1100:KF (lG 1100) uG = [[0,1,2]]:=by decide +kernel
theorem kf_1111:KF (lG 1111) uG = []:=by decide +kernel
theorem st_1100:stT (lG 1100) uG=0:=by decide +kernel
theorem st_1111:stT (lG 1111) uG=0:=by decide +kernel
theorem mv_ext {a b:Mo.Mv} (h1:a.t=b.t) (h2:a.ra=b.ra) (h3:a.dec=b.dec) (h4:a.dra=b.dra) (h5:a.ddec=b.ddec):a=b:=by
 cases a;cases b;simp only at h1 h2 h3 h4 h5;subst h1 h2 h3 h4 h5;rfl
theorem mot_G:motE (lG 1100)=(⟨#[70,53,49]⟩,⟨848075469184000,1150,0,2400,0⟩,0) :=
 Prod.ext (by decide +kernel) (Prod.ext (mv_ext (by decide +kernel) (by decide +kernel) (by decide +kernel) (by decide +kernel) (by decide +kernel)) (by decide +kernel))
theorem obs_G {s:Int}:OBs (lG s):=fun i h=>by
 have:∀ o∈lG s,OB o:=fun o ho=>by
  simp only[lG,List.mem_cons,List.not_mem_nil,or_false] at ho
  rcases ho with rfl|rfl|rfl <;> exact⟨by simp[oG],by simp[oG],by simp[oG],by simp[oG],by show (1:Nat)≤9223372036854775807;omega,by show (3:Nat)≤9223372036854775807;omega⟩
 exact this _ (List.getElem_mem h)
end Tk
namespace Tk
open Go.RowKit Lw Tw Wd Go.Proofs.YtdnogmanbdgadaaGreatDoor.Op Go.Proofs.YtdnogmanbdgadaaGreatDoor.Ow

def turn1 (by':Int) (o:Ob):Ob:={ o with ra:=(o.ra+by') % 1296000000000 }
def turnL (by':Int) (l:List Ob):List Ob:=l.map (turn1 by')
theorem dif_turn (a b c:Int):Pl.dif ((a+c) % 1296000000000) ((b+c) % 1296000000000)=Pl.dif a b:=by
 unfold Pl.dif
 rw[show ((a+c) % 1296000000000-(b+c) % 1296000000000) % 1296000000000=(a-b) % 1296000000000 by omega]
theorem turn_ok {c:Int} {o:Ob} (h:okO o):okO (turn1 c o):=by
 obtain⟨h1,h2,h3,h4,h5,h6,h7,h8,h9,ha,hb⟩:=h
 exact⟨h1,h2,h3,h4,by show 0≤(o.ra+c) % 1296000000000;omega,by show (o.ra+c) % 1296000000000<1296000000000;omega,h7,h8,h9,ha,hb⟩
theorem turn_dX (c:Int) (a b:Ob):dX (turn1 c a) (turn1 c b)=dX a b:=dif_turn _ _ _
theorem turn_alw (c:Int) (u:Rl) (a b:Ob):alw u (turn1 c a) (turn1 c b)↔alw u a b:=by
 unfold alw
 rw[turn_dX]
 exact Iff.rfl
theorem turn_btw (c:Int) (u:Rl) (a b d:Ob):btw u (turn1 c a) (turn1 c b) (turn1 c d)↔btw u a b d:=by
 unfold btw
 rw[turn_dX,turn_dX]
 exact Iff.rfl
theorem turn_len (c:Int) (l:List Ob):(turnL c l).length=l.length:=by simp[turnL]
theorem turn_get (c:Int) (l:List Ob) {i:Nat} (h:i<l.length) (h':i<(turnL c l).length):(turnL c l)[i]=turn1 c l[i]:=by simp[turnL]
theorem turn_set (c:Int) (l:List Ob) (u:Rl) {i j:Nat} (hi:i<l.length) (hj:j<l.length) (hi':i<(turnL c l).length) (hj':j<(turnL c l).length) :
  setOf (turnL c l) u (⟨i,hi'⟩,⟨j,hj'⟩)=setOf l u (⟨i,hi⟩,⟨j,hj⟩):=by
 unfold setOf
 rw[show List.range (turnL c l).length=List.range l.length by rw[turn_len]]
 refine List.filter_congr fun k hk=>?_
 have hk:k<l.length:=by simpa using hk
 have hk':k<(turnL c l).length:=by rw[turn_len];exact hk
 rw[dif_pos hk,dif_pos hk']
 have e1:(turnL c l)[(⟨i,hi'⟩:Fin _)]=turn1 c l[(⟨i,hi⟩:Fin _)]:=turn_get c l hi hi'
 have e2:(turnL c l)[(⟨j,hj'⟩:Fin _)]=turn1 c l[(⟨j,hj⟩:Fin _)]:=turn_get c l hj hj'
 simp only[e1,e2,turn_get c l hk hk',turn_btw]
theorem turn_row (c:Int) (l:List Ob) (u:Rl) {i:Nat} (hi:i<l.length) (hi':i<(turnL c l).length):∀ j,(rowA (turnL c l) u ⟨i,hi'⟩ j).map (setOf (turnL c l) u)=(rowA l u ⟨i,hi⟩ j).map (setOf l u)
 | 0=>rfl
 | j+1=>by
  have ih:=turn_row c l u hi hi' j
  rw[rowA,rowA]
  by_cases hj:j<l.length
  ·have hj':j<(turnL c l).length:=by rw[turn_len];exact hj
   rw[dif_pos hj,dif_pos hj']
   have e1:(turnL c l)[(⟨i,hi'⟩:Fin _)]=turn1 c l[(⟨i,hi⟩:Fin _)]:=turn_get c l hi hi'
   have e2:alw u (turnL c l)[(⟨i,hi'⟩:Fin _)] (turnL c l)[j]↔alw u l[(⟨i,hi⟩:Fin _)] l[j]:=by
    rw[e1,turn_get c l hj hj',turn_alw]
   by_cases ha:alw u l[(⟨i,hi⟩:Fin _)] l[j]
   ·rw[if_pos ha,if_pos (e2.2 ha),List.map_append,List.map_append,ih,List.map_singleton,List.map_singleton,turn_set c l u hi hj hi' hj']
   ·rw[if_neg ha,if_neg (fun q=>ha (e2.1 q)),ih]
  ·have hj':¬ j<(turnL c l).length:=by rw[turn_len];exact hj
   rw[dif_neg hj,dif_neg hj',ih]
theorem turn_all (c:Int) (l:List Ob) (u:Rl):∀ n,(allA (turnL c l) u n).map (setOf (turnL c l) u)=(allA l u n).map (setOf l u)
 | 0=>rfl
 | i+1=>by
  have ih:=turn_all c l u i
  rw[allA,allA]
  by_cases hi:i<l.length
  ·have hi':i<(turnL c l).length:=by rw[turn_len];exact hi
   rw[dif_pos hi,dif_pos hi',List.map_append,List.map_append,ih,turn_row c l u hi hi',turn_len]
  ·have hi':¬ i<(turnL c l).length:=by rw[turn_len];exact hi
   rw[dif_neg hi,dif_neg hi',ih]
theorem turn_allT {c:Int} {l:List Ob} (h:∀ o∈l,okO o):allT (turnL c l)=allT l:=by
 unfold allT
 rw[turn_len,if_pos h,if_pos (fun o ho=>by
  obtain⟨p,hp,rfl⟩:=List.mem_map.1 ho
  exact turn_ok (h p hp))]
theorem turn_KF {c:Int} {l:List Ob} (u:Rl) (h:∀ o∈l,okO o):KF (turnL c l) u=KF l u:=by
 have e:=(congrArg (fun n=>(allA (turnL c l) u n).map (setOf (turnL c l) u)) (turn_len c l)).trans (turn_all c l u l.length)
 unfold KF stT
 rw[turn_allT h,e]
theorem turn_stT {c:Int} {l:List Ob} (u:Rl) (h:∀ o∈l,okO o):stT (turnL c l) u=stT l u:=by
 unfold stT
 rw[turn_allT h]
theorem turn_T (c:Int) (l:List Ob):mtT (turnL c l) (turnL c l).length=mtT l l.length:=by
 rw[turn_len]
 unfold mtT turnL
 rw[← List.map_take,List.map_map]
 rfl
theorem turn_D (c:Int) (l:List Ob):mtD (turnL c l) (turnL c l).length=mtD l l.length:=by
 rw[turn_len]
 unfold mtD turnL
 rw[← List.map_take,List.map_map]
 rfl
theorem turn_head {c:Int} {l:List Ob} (h:l.length≠0):(turnL c l).headD zeroO=turn1 c (l.headD zeroO):=by
 cases l with
 | nil=>exact absurd rfl h
 | cons a l=>rfl
theorem turn_R {c:Int} {l:List Ob} (h:l.length≠0):mtR (turnL c l) (turnL c l).length=mtR l l.length:=by
 rw[turn_len]
 unfold mtR
 rw[turn_head h]
 unfold turnL
 rw[← List.map_take,List.map_map]
 refine List.map_congr_left fun o _=>?_
 exact dif_turn _ _ _
theorem moved_err {T R D:List Int} {e:Int} (h:Mo.moved T R D = .error e):e≠0:=by
 unfold Mo.moved at h
 dsimp only at h
 split at h
 ·cases h;decide
 ·split at h
  ·cases h;decide
  ·split at h
   ·cases h;decide
   ·split at h
    ·cases h;decide
    ·cases h
theorem turn_mot {c:Int} {l:List Ob} (h:∀ o∈l,okO o):(motE (turnL c l)).1=(motE l).1∧(motE (turnL c l)).2.2=(motE l).2.2 ∧ ∃ r,(motE (turnL c l)).2.1 = { (motE l).2.1 with ra:=r }∧((motE l).2.2=0→(r-(motE l).2.1.ra-c) % 1296000000000=0)∧(0≤r∧r<1296000000000)∧0≤(motE l).2.1.ra∧(motE l).2.1.ra<1296000000000:=by
 unfold motE
 rw[turn_allT h,turn_len]
 by_cases h1:allT l≠0
 ·rw[if_pos h1,if_pos h1]
  exact⟨rfl,rfl,0,rfl,fun q=>absurd q h1,by decide,Int.le_refl 0,(by decide:(0:Int)<1296000000000)⟩
 ·rw[if_neg h1,if_neg h1]
  by_cases h2:l.length=0
  ·rw[if_pos h2,if_pos h2]
   exact⟨rfl,rfl,0,rfl,fun q=>absurd q (by decide),by decide,by decide,by decide⟩
  ·rw[if_neg h2,if_neg h2,turn_head h2]
   have es:(∃ o∈turnL c l,o.site≠(turn1 c (l.headD zeroO)).site) ↔ ∃ o∈l,o.site≠(l.headD zeroO).site:=by
    constructor
    ·rintro ⟨o,ho,hs⟩
     obtain⟨p,hp,rfl⟩:=List.mem_map.1 ho
     exact⟨p,hp,hs⟩
    ·rintro ⟨o,ho,hs⟩
     exact⟨turn1 c o,List.mem_map.2 ⟨o,ho,rfl⟩,hs⟩
   by_cases h3:∃ o∈l,o.site≠(l.headD zeroO).site
   ·rw[if_pos h3,if_pos (es.2 h3)]
    exact⟨rfl,rfl,0,rfl,fun q=>absurd q (by decide),by decide,by decide,by decide⟩
   ·have hT:=turn_T c l
    have hR:=turn_R (c:=c) h2
    have hD:=turn_D c l
    rw[turn_len] at hT hR hD
    rw[if_neg h3,if_neg (fun q=>h3 (es.1 q)),hT,hR,hD]
    cases hm:Mo.moved (mtT l l.length) (mtR l l.length) (mtD l l.length) with
    | error e=>exact⟨rfl,rfl,0,rfl,fun q=>absurd q (moved_err hm),by decide,Int.le_refl 0,(by decide:(0:Int)<1296000000000)⟩
    | ok m =>
     refine⟨rfl,rfl,(((l.headD zeroO).ra+c) % 1296000000000+m.ra) % 1296000000000,rfl,fun _=>?_,⟨?_,?_⟩,?_,?_⟩
     ·show ((((l.headD zeroO).ra+c) % 1296000000000+m.ra) % 1296000000000-((l.headD zeroO).ra+m.ra) % 1296000000000-c) % 1296000000000=0
      omega
     ·omega
     ·omega
     ·show 0≤((l.headD zeroO).ra+m.ra) % 1296000000000
      omega
     ·show ((l.headD zeroO).ra+m.ra) % 1296000000000<1296000000000
      omega
end Tk
namespace Vw
open Go.RowKit Lw Go.Proofs.YtdnogmanbdgadaaGreatDoor.Op

theorem eq_step {P:Program} (w:World) (d:Nat) (xs ys:Array Value) (f:Field) (fs:List Field) (hn:f.name ≠ "_") (hp:P.plainKey f.type=true) (x y:Value) (hx:xs[f.offset]? = some x) (hy:ys[f.offset]? = some y) (r:Bool)
  (hr:(Op.equalIn d f.type x y).run P w = .ok r w) (r':Bool) (h:(Op.eqFields d xs ys fs).run P w = .ok r' w):(Op.eqFields d xs ys (f::fs)).run P w = .ok (r && r') w:=by
 simp only[Op.eqFields,hn,ne_eq,not_false_eq_true,if_true,Sem.run_bind,run_part_plain w hp hx,run_part_plain w hp hy,hr,Result.andThen_ok]
 cases r
 ·simp
 ·simpa using h
theorem fields_of {P:Program} {t:TypeId} {fs:Array Field} (h:P.underlying t=some (.struct fs)):P.fieldsOf t=fs:=by simp[Program.fieldsOf,h]
end Vw
namespace Tw
open Go.RowKit Lw Tk Wd Vw Go.Proofs.YtdnogmanbdgadaaGreatDoor.Op Go.Proofs.YtdnogmanbdgadaaGreatDoor.Ow

theorem at_eql (s:ByteArray) (m:Mo.Mv) (w:World):(Op.equalIn 10000 44 (.agg #[.string s, .int .i64 m.t, .int .i64 m.ra, .int .i64 m.dec, .int .i64 m.dra, .int .i64 m.ddec]) (.agg #[.string s, .int .i64 m.t, .int .i64 m.ra, .int .i64 m.dec, .int .i64 m.dra, .int .i64 m.ddec])).run Tryz.prog w = .ok true w:=by
 have hfs:=fields_of Tryz.underlying44
 have e:=run_equalIn_struct (P:=Tryz.prog) w 9999 44 #[.string s, .int .i64 m.t, .int .i64 m.ra, .int .i64 m.dec, .int .i64 m.dra, .int .i64 m.ddec] #[.string s, .int .i64 m.t, .int .i64 m.ra, .int .i64 m.dec, .int .i64 m.dra, .int .i64 m.ddec] (by rw[hfs];exact Tryz.underlying44) (by kernel_rfl)
 have t:true=((s.toList==s.toList) && ((m.t==m.t) && ((m.ra==m.ra) && ((m.dec==m.dec) && ((m.dra==m.dra) && ((m.ddec==m.ddec) && true)))))):=by simp
 rw[e,hfs,t]
 refine eq_step w 9999 _ _ _ _ (by decide) (by kernel_rfl) _ _ rfl rfl _ (run_equalIn_string w 9998 _ _ _ Tryz.underlying9) _ ?_
 refine eq_step w 9999 _ _ _ _ (by decide) (by kernel_rfl) _ _ rfl rfl _ (run_equalIn_int w 9998 _ .i64 .i64 _ _ Tryz.underlying2) _ ?_
 refine eq_step w 9999 _ _ _ _ (by decide) (by kernel_rfl) _ _ rfl rfl _ (run_equalIn_int w 9998 _ .i64 .i64 _ _ Tryz.underlying2) _ ?_
 refine eq_step w 9999 _ _ _ _ (by decide) (by kernel_rfl) _ _ rfl rfl _ (run_equalIn_int w 9998 _ .i64 .i64 _ _ Tryz.underlying2) _ ?_
 refine eq_step w 9999 _ _ _ _ (by decide) (by kernel_rfl) _ _ rfl rfl _ (run_equalIn_int w 9998 _ .i64 .i64 _ _ Tryz.underlying2) _ ?_
 refine eq_step w 9999 _ _ _ _ (by decide) (by kernel_rfl) _ _ rfl rfl _ (run_equalIn_int w 9998 _ .i64 .i64 _ _ Tryz.underlying2) _ ?_
 simp[Op.eqFields]
theorem sets_k {w:World} {a b:Nat} (ha:a<w.heap.size) (hb:b<w.heap.size) (ra:w.rangeAt a 0 [.int .i64 0, .int .i64 1, .int .i64 2]) (rb:w.rangeAt b 0 [.slice (some ⟨a,0,none⟩) 3 3]):SetsAt w (.slice (some ⟨b,0,none⟩) 1 1) [[0,1,2]]:=by
 refine⟨some ⟨b,0,none⟩,1,[⟨some ⟨a,0,none⟩,3,3⟩],rfl,rfl,⟨fun i hi=>?_⟩,fun i h1 h2=>?_⟩
 ·obtain rfl:i=0:=by simp at hi;omega
  exact⟨b,rfl,hb,rb⟩
 ·obtain rfl:i=0:=by simp at h1;omega
  refine⟨rfl,⟨fun j hj=>⟨a,rfl,ha,?_⟩⟩⟩
  have hj:j=0∨j=1∨j=2:=by
   have:j<3:=hj
   omega
  rcases hj with rfl|rfl|rfl
  all_goals (intro k v hv;obtain rfl:k=0:=by have:=(List.getElem?_eq_some_iff.1 hv).1;simp at this;omega)
  ·exact ra 0 v hv
  ·exact ra 1 v hv
  ·exact ra 2 v hv
theorem SetsAt.len0 {w:World} {V:Value} (h:SetsAt w V []):∃ A cap,V = .slice A 0 cap:=by
 obtain⟨A,cap,S,e, -⟩:=h
 exact⟨A,cap,e⟩
theorem sla_G {w:World} {b:Nat} {s:Int} (lt:b<w.heap.size) (h:ObsAt w b 0 (lG s)):SlA w (some ⟨b,0,none⟩) (lG s):=Or.inr ⟨b,0,rfl,lt,h⟩
theorem lalive_any (w:World) (hE:ES w) (hD:DB w):Calls Tryz.prog 8 #[] w fun e w'=>e = .returned (.bool true)∧Below w.heap.size w w':=by
 have GV:=Lib.hid given_any
 have RU:=Lib.hid lrule_any
 have F1:=Lib.hid (fun b w' (h:ES w') (d:DB w') (lt:b<w'.heap.size) (g:ObsAt w' b 0 (lG 1100))=>(find2_any (some ⟨b,0,none⟩) 3 (lG 1100) uG w' h d (sla_G lt g) (by decide) (fun _=>by decide) obs_G))
 have F2:=Lib.hid (fun b w' (h:ES w') (d:DB w') (lt:b<w'.heap.size) (g:ObsAt w' b 0 (lG 1111))=>(find2_any (some ⟨b,0,none⟩) 3 (lG 1111) uG w' h d (sla_G lt g) (by decide) (fun _=>by decide) obs_G))
 have MO:=Lib.hid (fun b w' (h:ES w') (lt:b<w'.heap.size) (g:ObsAt w' b 0 (lG 1100))=>motion_any (some ⟨b,0,none⟩) 3 (lG 1100) w' h (sla_G lt g) (by decide) obs_G (fun _=>by decide))
 rw[kf_1100,st_1100] at F1
 rw[kf_1111,st_1111] at F2
 rw[mot_G] at MO
 have HE:=Lib.hid hE
 have HD:=Lib.hid hD
 clear hE hD
 go_enter Tryz.func8,Tryz.ntmps8
 simp only[atV,atC] at MO
 go_wp2_with fail
 refine(GV.out 1100 w).mono ?_
 rintro e w1 ⟨b1,lo1,rfl,o1,k1,lt1⟩
 have O1:=Lib.hid o1
 have K1:=Lib.hid k1
 have E1:=Lib.hid (HE.out.below k1)
 have D1:=Lib.hid (HD.out.below k1)
 have L1:=Lib.hid lt1
 clear o1 k1 HE HD lt1 lo1
 go_wp2_with fail
 refine(RU.out w1).mono ?_
 rintro e w2 ⟨rfl,k2⟩
 have O2:=Lib.hid (O1.out.below k2 L1.out)
 have K2:=Lib.hid (below_then K1.out k2)
 have E2:=Lib.hid (E1.out.below k2)
 have D2:=Lib.hid (D1.out.below k2)
 have L2:=Lib.hid (Nat.lt_of_lt_of_le L1.out k2.size)
 clear k2 O1 K1 E1 D1 L1
 go_wp2_with fail
 refine(F1.out b1 w2 E2.out D2.out L2.out O2.out).mono ?_
 rintro e w3 ⟨Va,rfl,k3,sa⟩
 have O3:=Lib.hid (O2.out.below k3 L2.out)
 have K3:=Lib.hid (below_then K2.out k3)
 have E3:=Lib.hid (E2.out.below k3)
 have D3:=Lib.hid (D2.out.below k3)
 have L3:=Lib.hid (Nat.lt_of_lt_of_le L2.out k3.size)
 have S3:=Lib.hid sa
 clear k3 sa O2 K2 E2 D2 L2 F1
 go_wp2_with fail
 refine(GV.out 1111 w3).mono ?_
 rintro e w4 ⟨b2,lo4,rfl,q4,k4,lt4⟩
 have Q4:=Lib.hid q4
 have M4:=Lib.hid lt4
 have O4:=Lib.hid (O3.out.below k4 L3.out)
 have K4:=Lib.hid (below_then K3.out k4)
 have E4:=Lib.hid (E3.out.below k4)
 have D4:=Lib.hid (D3.out.below k4)
 have L4:=Lib.hid (Nat.lt_of_lt_of_le L3.out k4.size)
 have S4:=Lib.hid (S3.out.below k4)
 clear k4 lo4 q4 lt4 O3 K3 E3 D3 L3 S3 GV
 go_wp2_with fail
 refine(RU.out w4).mono ?_
 rintro e w5 ⟨rfl,k5⟩
 have Q5:=Lib.hid (Q4.out.below k5 M4.out)
 have M5:=Lib.hid (Nat.lt_of_lt_of_le M4.out k5.size)
 have O5:=Lib.hid (O4.out.below k5 L4.out)
 have K5:=Lib.hid (below_then K4.out k5)
 have E5:=Lib.hid (E4.out.below k5)
 have D5:=Lib.hid (D4.out.below k5)
 have L5:=Lib.hid (Nat.lt_of_lt_of_le L4.out k5.size)
 have S5:=Lib.hid (S4.out.below k5)
 clear k5 O4 K4 E4 D4 L4 S4 Q4 M4 RU
 go_wp2_with fail
 refine(F2.out b2 w5 E5.out D5.out M5.out Q5.out).mono ?_
 rintro e w6 ⟨Vb,rfl,k6,sb⟩
 obtain⟨A2,c2,rfl⟩:=sb.len0
 have O6:=Lib.hid (O5.out.below k6 L5.out)
 have K6:=Lib.hid (below_then K5.out k6)
 have E6:=Lib.hid (E5.out.below k6)
 have L6:=Lib.hid (Nat.lt_of_lt_of_le L5.out k6.size)
 have S6:=Lib.hid (S5.out.below k6)
 clear k6 O5 K5 E5 D5 L5 S5 Q5 M5 F2 sb
 go_wp2_with fail
 refine(MO.out b1 w6 E6.out L6.out O6.out).mono ?_
 rintro e w7 ⟨rfl,k7⟩
 have O7:=Lib.hid (O6.out.below k7 L6.out)
 have K7:=Lib.hid (below_then K6.out k7)
 have L7:=Lib.hid (Nat.lt_of_lt_of_le L6.out k7.size)
 have S7:=Lib.hid (S6.out.below k7)
 clear k7 O6 K6 E6 L6 S6 MO
 go_upto_region 5 with fail
 have CB:=Lib.hid (show ∀ w',Below w7.heap.size w7 w'→w'.cell? ⟨b1,2,none⟩=some (.int .i64 848070069184000) from fun w' hb=>(O7.out.below hb L7.out) 0 (by decide) 2 _ rfl)
 have F:=Lib.hid (((Fr.start w7).alloc [.string ⟨#[70,53,49]⟩, .int .i64 848075469184000, .int .i64 1150, .int .i64 0, .int .i64 2400, .int .i64 0] 44).drew)
 have EQ:∀ w',(Go.Op.equalIn 10000 44 (.agg #[.string ⟨#[70,53,49]⟩, .int .i64 848075469184000, .int .i64 1150, .int .i64 0, .int .i64 2400, .int .i64 0]) (.agg #[.string ⟨#[70,53,49]⟩, .int .i64 848075469184000, .int .i64 1150, .int .i64 0, .int .i64 2400, .int .i64 0])).run Tryz.prog w' = .ok true w':=fun w'=>at_eql ⟨#[70,53,49]⟩ ⟨848075469184000,1150,0,2400,0⟩ w'
 have SM:=Lib.hid (fun V1 V2 w' (h1:SetsAt w' V1 [[0,1,2]]) (h2:SetsAt w' V2 [[0,1,2]])=>samesets_any V1 V2 [[0,1,2]] w' h1 h2 (by decide) (by decide))
 have WR1:IntKind.i64.wrap 848073669184000=848073669184000:=by decide +kernel
 have WR2:IntKind.i64.wrap 848075469184000=848075469184000:=by decide +kernel
 clear O7 L7
 refine TillSt.start (fun w'=>w'.rangeAt w7.heap.size 0 [.string ⟨#[70,53,49]⟩, .int .i64 848075469184000, .int .i64 1150, .int .i64 0, .int .i64 2400, .int .i64 0]∧w'.cell? ⟨b1,2,none⟩=some (.int .i64 848070069184000)) 32 (by kernel_rfl) (⟨F.out.get 0 rfl,CB.out _ F.out.below⟩) (fun hHeld=>?_)
 generalize World.drew _=wd at *
 refine TillSt.tP 0 (fun _=>hHeld) ?_
 refine TillSt.tP 1 (fun _=>hHeld) ?_
 refine TillSt.tP 2 (fun _=>hHeld) ?_
 refine TillSt.tP 3 (fun _=>hHeld) ?_
 refine TillSt.nx [4] ?_
 refine NextSt.cons rfl (fun K' hK=>?_) NextSt.nil
 clear hHeld
 go_simp
 replace F:=Lib.hid (F.out.alloc [.int .i64 0, .int .i64 1, .int .i64 2] 3)
 generalize World.alloc wd _=we at *
 refine hK.out _ _ (⟨F.out.get 1 rfl,CB.out _ F.out.below⟩) (fun hHeld=>?_)
 clear hK
 try simp only[Act.put,Lw.s1,Lw.s2,Lw.s3]
 refine TillSt.nx [5] ?_
 refine NextSt.cons rfl (fun K' hK=>?_) NextSt.nil
 clear hHeld
 go_simp
 replace F:=Lib.hid (F.out.alloc [.slice (some ⟨wd.heap.size,0,none⟩) 3 3] 29)
 generalize World.alloc we _=wf at *
 refine hK.out _ _ (⟨F.out.get 2 rfl,CB.out _ F.out.below⟩) (fun hHeld=>?_)
 clear hK
 try simp only[Act.put,Lw.s1,Lw.s2,Lw.s3]
 refine TillSt.nx [6] ?_
 refine NextSt.cons rfl (fun K' hK=>?_) NextSt.nil
 clear hHeld
 go_simp
 refine(SM.out _ _ wf (S7.out.below F.out.below) (sets_k (F.out.least 1 rfl).2 (F.out.least 0 rfl).2 (F.out.get 1 rfl) (F.out.get 0 rfl))).mono ?_
 rintro e w8 ⟨rfl,q,rfl⟩
 replace F:=Lib.hid (F.out.call (drewN_below2 (Below.refl _ wf) q))
 generalize World.drewN _ _=wg at *
 refine hK.out _ _ (⟨F.out.get 2 rfl,CB.out _ F.out.below⟩) (fun hHeld=>?_)
 clear hK
 try simp only[Act.put,Lw.s1,Lw.s2,Lw.s3]
 refine TillSt.tP 7 (fun _=>hHeld) ?_
 refine TillSt.tP 8 (fun _=>hHeld) ?_
 refine TillSt.tP 9 (fun _=>hHeld) ?_
 refine TillSt.tP 10 (fun _=>hHeld) ?_
 refine TillSt.tP 11 (fun _=>hHeld) ?_
 refine TillSt.tP 12 (fun _=>hHeld) ?_
 refine TillSt.tP 13 (fun _=>hHeld) ?_
 refine TillSt.tP 14 (fun _=>hHeld) ?_
 refine TillSt.tP 15 (fun _=>hHeld) ?_
 refine TillSt.tP 16 (fun _=>hHeld) ?_
 refine TillSt.tP 17 (fun _=>hHeld) ?_
 refine TillSt.tP 18 (fun _=>hHeld) ?_
 refine TillSt.tP 19 (fun _=>hHeld) ?_
 refine TillSt.tP 20 (fun _=>hHeld) ?_
 refine TillSt.tP 21 (fun _=>hHeld) ?_
 refine TillSt.take (i:=22) (oi:=?oi22x20) (v:=?v22x20) ?hi22x20 (by kernel_rfl) (by kernel_rfl) (by kernel_rfl) (by kernel_rfl) (by kernel_rfl) ?hq22x20 ?hy22x20 hHeld (by decide) ?rest22x20
 case hi22x20=>((try simp only[List.getElem?_toArray,List.getElem?_cons_succ,List.getElem?_cons_zero]);(try rfl))
 case hq22x20=>exact fun _ _ _ h=>h
 case hy22x20 =>
  refine' yieldsIf_load_mid ?_ 44 (.tmp 6) ?_ w7.heap.size 0 ?_ [.string ⟨#[70,53,49]⟩, .int .i64 848075469184000, .int .i64 1150, .int .i64 0, .int .i64 2400, .int .i64 0] _ ?_ Tryz.underlying44 ?_ info6
  ·rfl
  ·rfl
  ·rfl
  ·exact fun _ h=>h.1
  ·rfl
 try simp only[Act.put,Lw.s1,Lw.s2,Lw.s3]
 refine TillSt.tP 23 (fun _=>hHeld) ?_
 refine TillSt.tP 24 (fun _=>hHeld) ?_
 refine TillSt.tP 25 (fun _=>hHeld) ?_
 refine TillSt.tL 26 hHeld (hy:=Or.inl ⟨by rfl,by intro w hSw;have c0:=hSw.2;clear hSw;go_simp;try with_reducible rfl⟩) (h:=?_)
 refine TillSt.tP 27 (fun _=>hHeld) ?_
 refine TillSt.tP 28 (fun _=>hHeld) ?_
 refine TillSt.tP 29 (fun _=>hHeld) ?_
 refine TillSt.tP 30 (fun _=>hHeld) ?_
 refine TillSt.tP 31 (fun _=>hHeld) ?_
 refine TillSt.nx [32] ?_
 refine NextSt.last rfl (by kernel_rfl) (fun K' hK=>?_) NextSt.nil
 clear hHeld
 go_simp
 refine hK.out _ _ ?_
 clear hK
 try simp only[Act.put,Lw.s1,Lw.s2,Lw.s3]
 refine TillSt.done (by kernel_rfl) ?_ _
 go_wp2_with fail
 exact bodyPost_ret (results_tmp rfl _ _ _) rfl ⟨rfl,below_then K7.out F.out.below⟩
end Tw
namespace Tw
open Go.RowKit Lw Tk Wd Vw Go.Proofs.YtdnogmanbdgadaaGreatDoor.Op Go.Proofs.YtdnogmanbdgadaaGreatDoor.Ow

theorem take_turn {c:Int} {l:List Ob} {k:Nat} (h:k<l.length):turnL c (l.take (k+1))=turnL c (l.take k) ++ [turn1 c l[k]]:=by
 unfold turnL
 rw[List.take_succ_eq_append_getElem h,List.map_append]
 rfl
theorem turned_out (x:Option Addr) (cap:Nat) (l:List Ob) (u:Rl) (c:Int) (w:World) (hE:ES w) (hD:DB w) (hl:SlA w x l) (hm:l.length≤9223372036854775807) (hb:OBs l) (hc:-9223372036854775808≤c∧c≤9223372036854775807)
  (h:9<l.length∨greatT l 9=true∨c < -1296000000000∨1296000000000<c):Calls Tryz.prog 5 #[.slice x l.length cap,rlV u, .int .i64 c] w fun e w'=>e = .returned (.bool true)∧Below w.heap.size w w':=by
 have F0:=Lib.hid ((Fr.start w).alloc (rlC u) 24)
 have AL:=Lib.hid (lalive_any _ (hE.below F0.out.below) (hD.below F0.out.below))
 have GR:=Lib.hid (fun w' (hb':Below w.heap.size w w')=>tgreat_sl x cap l w' (hl.below hb') hm hb)
 have HG:=Lib.hid h
 clear hE hD hl hb h
 by_cases h9:9<l.length
 ·have i9:(9:Int)<(l.length:Int):=by omega
  clear HG GR
  go_enter Tryz.func5,Tryz.ntmps5
  go_wp2_with (go_at_call 8;refine AL.out.mono ?_;rintro e w1 ⟨rfl,k1⟩;have F1:=Lib.hid (F0.out.call k1);clear k1)
  exact bodyPost_ret (results_tmp rfl _ _ _) rfl ⟨rfl,F1.out.below⟩
 ·have i9:(l.length:Int)≤9:=by omega
  cases hg:greatT l 9
  ·have HC:=HG.out.resolve_left h9
   rw[hg] at HC GR
   have HC:=HC.resolve_left (by decide)
   rcases HC with q|q
   all_goals clear HG h9 hg
   all_goals go_enter Tryz.func5,Tryz.ntmps5
   all_goals go_wp2_with (first|(go_at_call 8;refine AL.out.mono ?_;rintro e w1 ⟨rfl,k1⟩;have F1:=Lib.hid (F0.out.call k1);clear k1)|(go_at_call 9;refine(GR.out _ F1.out.below).mono ?_;rintro e w2 ⟨rfl,rfl⟩))
   all_goals exact bodyPost_ret (results_tmp rfl _ _ _) rfl ⟨rfl,F1.out.below⟩
  ·rw[hg] at GR
   clear HG h9 hg
   go_enter Tryz.func5,Tryz.ntmps5
   go_wp2_with (first|(go_at_call 8;refine AL.out.mono ?_;rintro e w1 ⟨rfl,k1⟩;have F1:=Lib.hid (F0.out.call k1);clear k1)|(go_at_call 9;refine(GR.out _ F1.out.below).mono ?_;rintro e w2 ⟨rfl,rfl⟩))
   exact bodyPost_ret (results_tmp rfl _ _ _) rfl ⟨rfl,F1.out.below⟩
theorem dif_mod (a b:Int):(Pl.dif a b-(a-b)) % 1296000000000=0:=by
 unfold Pl.dif
 split <;> omega
theorem turn_rem {r ra c:Int} (h:(r-ra-c) % 1296000000000=0):(Pl.dif r ra-Pl.dif c 0).tmod 1296000000000=0:=by
 have h1:=dif_mod r ra
 have h2:=dif_mod c 0
 exact Int.tmod_eq_zero_of_dvd (Int.dvd_of_emod_eq_zero (by omega))
theorem Fr.set1c {w0 w:World} {L:List (Nat×List Value)} (h:Fr w0 L w) (k:Nat) {b:Nat} {v0 v1 v2 v3 v4 v5 x:Value} (hk:L[k]? = some (b,[v0,v1,v2,v3,v4,v5])) :
  Fr w0 (L.set k (b,[v0,v1,x,v3,v4,v5])) (w.setCell ⟨b,2,none⟩ x) :=
 h.set k hk 2 [x] [v0,v1,x,v3,v4,v5] rfl (by simp) (fun j hj=>match j,hj with|0,_=>rfl) (fun j hj=>match j,hj with|0,_=>rfl|1,_=>rfl|2,h=>by simp at h|j+3,_=>rfl)
structure TSt (w:World) (l:List Ob) (u:Rl) (c:Int) (k:Nat) (v:Value) (wr:World):Prop where
 fr:Fr w [(w.heap.size,rlC u)] wr
 ow:OwnO wr (w.heap.size+1) v (turnL c (l.take k))
 ok:∀ j (h:j<l.length),j<k→okO (l[j]'h)
theorem turned_main (x:Option Addr) (cap:Nat) (l:List Ob) (u:Rl) (c:Int) (w:World) (hE:ES w) (hD:DB w) (hl:SlA w x l) (hb:OBs l) (h9:l.length≤9) (hg:greatT l 9=false) (hc0:-1296000000000≤c) (hc1:c≤1296000000000) :
  Calls Tryz.prog 5 #[.slice x l.length cap,rlV u, .int .i64 c] w fun e w'=>e = .returned (.bool true)∧Below w.heap.size w w':=by
 have F0:=Lib.hid ((Fr.start w).alloc (rlC u) 24)
 have AL:=Lib.hid (lalive_any _ (hE.below F0.out.below) (hD.below F0.out.below))
 have GR:=Lib.hid (fun w' (hb':Below w.heap.size w w')=>hg ▸ tgreat_sl x cap l w' (hl.below hb') (by omega) hb)
 have HL:=Lib.hid (fun w' (h:Below w.heap.size w w')=>hl.below h)
 have HE:=Lib.hid (fun w' (h:Below w.heap.size w w')=>hE.below h)
 have HD:=Lib.hid (fun w' (h:Below w.heap.size w w')=>hD.below h)
 have HB:=Lib.hid hb
 clear hE hD hl hb hg
 obtain⟨n,hn⟩:∃ n,n=l.length:=⟨_,rfl⟩
 rw[← hn] at h9 GR ⊢
 have HN:=Lib.hid hn
 clear hn
 have n9:(n:Int)≤9:=by omega
 go_enter Tryz.func5,Tryz.ntmps5
 go_wp2_with (first|(go_at_call 8;refine AL.out.mono ?_;rintro e w1 ⟨rfl,k1⟩;have F1:=Lib.hid (F0.out.call k1);clear k1)|(go_at_call 9;refine(GR.out _ F1.out.below).mono ?_;rintro e w2 ⟨rfl,rfl⟩))
 have st:=Lib.hid (show TSt w l u c 0 (.slice none 0 0) w1 from⟨F1.out,OwnO.nil _ _ (F1.out.least 0 rfl).2,fun j _ q=>absurd q (by omega)⟩)
 clear F0 F1 AL GR
 go_loopw [8,9,10] (fun v i _ wr=>∃ k:Nat,k≤n∧i = .int .i64 k∧Hid (TSt w l u c k v wr)) (fun _ i _ _=>n-(intOf i).toNat)
 case atStart=>exact⟨0,by omega,rfl,st⟩
 case round =>
  obtain⟨k,hk,rfl,hS⟩:=hrel
  by_cases hkn:k<n
  ·have i1:(k:Int)<(n:Int):=by omega
   have hkl:k<l.length:=by rw[← HN.out];exact hkn
   obtain⟨b,off,rfl,lt,row⟩:=(HL.out _ hS.out.fr.below).get hkl
   have R:=Lib.hid (row k hkl)
   have LT:=Lib.hid lt
   have TK:=Lib.hid (take_turn (c:=c) hkl)
   have OBk:=HB.out k hkl
   have FR:=Lib.hid hS.out.fr
   have OW:=Lib.hid hS.out.ow
   have CK:=Lib.hid (rcheck_any l[k] wr OBk.t0 OBk.t1 OBk.b0 OBk.b1 OBk.n1 OBk.n2)
   have KK:=Lib.hid (fun (hs:okO (l[k]'hkl)) j (h:j<l.length) (hj:j<k+1)=>(show okO (l[j]'h) from by
    by_cases e:j=k
    ·subst e;exact hs
    ·exact hS.out.ok j h (by omega)))
   have zl:(turnL c (l.take k)).length≤1000000:=by rw[turn_len,List.length_take];omega
   clear hS row lt OBk
   generalize l[k]'hkl=o at *
   by_cases ho:okO o
   ·rw[show checkC o=0 from if_pos ho] at CK
    have K2:=Lib.hid (KK.out ho)
    have r0:0≤o.ra:=ho.2.2.2.2.1
    have r1:o.ra<1296000000000:=ho.2.2.2.2.2.1
    have NM:=Lib.hid (fun w'=>Turns.rnorm_any (o.ra+c) w' (by omega) (by omega))
    clear KK ho
    go_wp2_with (first|(refine wpList_load_mid rfl _ (.tmp 49) rfl b (off+k*8) rfl (obsC o) _ R.out Tryz.underlying31 rfl info8 ?_)|(go_at_call 15;refine CK.out.mono ?_;rintro e w2 ⟨rfl,hb⟩;have F2:=Lib.hid (FR.out.call hb);have O2:=Lib.hid (OW.out.below hb);have R2:=Lib.hid (rangeAt_below R.out hb LT.out);clear hb FR OW R CK)|(refine wpList_store_new rfl _ (.tmp 10) (.tmp 57) rfl _ _ rfl rfl info8 rfl ?_ ?_;simp[Value.oneCell'])|(refine wpList_load_mid rfl _ (.tmp 56) rfl b (off+k*8) rfl (obsC o) _ R2.out Tryz.underlying31 rfl info8 ?_)|(go_at_call 16;refine(NM.out _).mono ?_;rintro e w3 ⟨rfl,rfl⟩)|(refine wpList_load_mid rfl _ (.tmp 10) rfl w2.heap.size 0 rfl (obsC (turn1 c o)) _ (rangeAt_new w2 (obsC (turn1 c o)) _) Tryz.underlying31 rfl info8 ?_)|(at_builtin;refine wp_app _ rfl (.tmp 64) (.tmp 66) rfl (w.heap.size+1) _ (turnL c (l.take k)) (turn1 c o) rfl (by first|rfl|simp[Act.eval]) (O2.out.below ((Below.refl _ w2).alloc (Nat.le_refl _) _)) zl ?_;intro v' w4 hO4 hb4))
    have F4:=Fr.lower (F2.out.call ((Below.refl _ w2).alloc (Nat.le_refl _) _)) hb4 (Nat.le_succ _) (fun q hq=>by rw[List.mem_singleton.1 hq];exact Nat.lt_succ_self _)
    have T4:=Lib.hid (show TSt w l u c (k+1) v' w4 from⟨F4,by rw[TK.out];exact hO4,K2.out⟩)
    clear F4 hO4 hb4 F2 O2 R2
    exact⟨⟨k+1,by omega,by go_num,T4⟩,by simp[intOf];omega⟩
   ·rw[show checkC o=8 from if_neg ho] at CK
    clear KK ho OW TK
    go_wp2_with (first|(refine wpList_load_mid rfl _ (.tmp 49) rfl b (off+k*8) rfl (obsC o) _ R.out Tryz.underlying31 rfl info8 ?_)|(go_at_call 15;refine CK.out.mono ?_;rintro e w2 ⟨rfl,hb⟩;have F2:=Lib.hid (FR.out.call hb);clear hb FR R CK))
    exact bodyPost_ret (results_tmp rfl _ _ _) rfl ⟨rfl,F2.out.below⟩
  ·obtain rfl:k=n:=by omega
   have okl:∀ o∈l,okO o:=fun o ho=>by
    obtain⟨j,hj,rfl⟩:=List.getElem_of_mem ho
    exact hS.out.ok j hj (by rw[HN.out];exact hj)
   have ow:=hS.out.ow
   rw[show l.take k=l by rw[HN.out,List.take_length]] at ow
   obtain⟨y,d,rfl,hy⟩:=slV_of ow.1
   have FR:=Lib.hid hS.out.fr
   have WB:=Lib.hid hS.out.fr.below
   have HY:=Lib.hid (fun w' (h:Below wr.heap.size wr w')=>hy.below h)
   have l9:l.length≤9:=by rw[← HN.out];exact h9
   have t9:(turnL c l).length≤9:=by rw[turn_len];exact l9
   have OT:=Lib.hid (show OBs (turnL c l) from fun i hi=>by
    rw[turn_get c l (by rw[← turn_len c];exact hi) hi]
    have o:=HB.out i (by rw[← turn_len c];exact hi)
    exact⟨o.t0,o.t1,o.b0,o.b1,o.n1,o.n2⟩)
   have G1:=Lib.hid (fun w' (hb:Below w.heap.size w w')=>find2_any x cap l u w' (HE.out _ hb) (HD.out _ hb) (HL.out _ hb) (by omega) (fun _=>l9) HB.out)
   have G2:=Lib.hid (fun w' (hb:Below w.heap.size w w') (h:SlA w' y (turnL c l))=>find2_any y d (turnL c l) u w' (HE.out _ hb) (HD.out _ hb) h (by omega) (fun _=>t9) OT.out)
   have M1:=Lib.hid (fun w' (hb:Below w.heap.size w w')=>motion_any x cap l w' (HE.out _ hb) (HL.out _ hb) (by omega) HB.out (fun _=>l9))
   have M2:=Lib.hid (fun w' (hb:Below w.heap.size w w') (h:SlA w' y (turnL c l))=>motion_any y d (turnL c l) w' (HE.out _ hb) h (by omega) OT.out (fun _=>t9))
   have S2:=Lib.hid (fun V1 V2 w' (h1:SetsAt w' V1 (KF l u)) (h2:SetsAt w' V2 (KF l u))=>samesets_any V1 V2 (KF l u) w' h1 h2 (KF_small (fun _=>l9)).1 (KF_small (fun _=>l9)).2)
   obtain⟨e1,e2,r,e3,e4,⟨r0,r1⟩,q0,q1⟩:=turn_mot (c:=c) okl
   have ET:motE (turnL c l)=((motE l).1,{ (motE l).2.1 with ra:=r },(motE l).2.2):=Prod.ext e1 (Prod.ext e3 e2)
   rw[turn_KF u okl,turn_stT u okl] at G2
   rw[ET] at M2
   rw[← HN.out] at G1 M1
   generalize KF l u=K at *
   generalize stT l u=se at *
   generalize motE l=me at *
   obtain⟨s,⟨mt,ra,dec,dra,ddec⟩,g⟩:=me
   simp only[atV,atC] at M1 M2 e4 q0 q1
   generalize (turnL c l).length=tn at *
   have E4:=Lib.hid e4
   clear hS ow okl hy l9 t9 OT HE HD HL HB e1 e2 e3 e4 ET st
   obtain⟨c0,c1,c2,c3,c4⟩:=FR.out.c5 0 rfl
   go_wp2_with fail
   refine(G1.out _ WB.out).mono ?_
   rintro e w3 ⟨Va,rfl,k3,s3⟩
   clear c0 c1 c2 c3 c4
   have F3:=Lib.hid (FR.out.call k3)
   have K3:=Lib.hid k3
   have S3:=Lib.hid s3
   obtain⟨c0,c1,c2,c3,c4⟩:=F3.out.c5 0 rfl
   clear FR WB G1 k3 s3
   go_wp2_with fail
   refine(G2.out _ F3.out.below (HY.out _ K3.out)).mono ?_
   rintro e w4 ⟨Vb,rfl,k4,s4⟩
   clear c0 c1 c2 c3 c4
   have F4:=Lib.hid (F3.out.call k4)
   have K4:=Lib.hid (below_then K3.out k4)
   have S4:=Lib.hid (S3.out.below k4)
   have T4:=Lib.hid s4
   clear F3 K3 S3 G2 k4 s4
   go_wp2_with fail
   refine(M1.out _ F4.out.below).mono ?_
   rintro e w5 ⟨rfl,k5⟩
   have K5:=Lib.hid (below_then K4.out k5)
   have S5:=Lib.hid (S4.out.below k5)
   have T5:=Lib.hid (T4.out.below k5)
   have F5:=Lib.hid ((F4.out.call k5).alloc [.string s, .int .i64 mt, .int .i64 ra, .int .i64 dec, .int .i64 dra, .int .i64 ddec] 44)
   have ba:=(Below.refl _ w5).alloc (Nat.le_refl _) (.cells [.string s, .int .i64 mt, .int .i64 ra, .int .i64 dec, .int .i64 dra, .int .i64 ddec].toArray 44)
   replace K5:=Lib.hid (below_then K5.out ba)
   replace S5:=Lib.hid (S5.out.below ba)
   replace T5:=Lib.hid (T5.out.below ba)
   clear F4 K4 S4 T4 k5 M1 ba
   go_upto_region 16 with fail
   generalize World.alloc w5 _=w6 at *
   go_wp2_with fail
   refine(M2.out _ F5.out.below (HY.out _ K5.out)).mono ?_
   rintro e w7 ⟨rfl,k7⟩
   have S7:=Lib.hid (S5.out.below k7)
   have T7:=Lib.hid (T5.out.below k7)
   have F7:=Lib.hid ((F5.out.call k7).alloc [.string s, .int .i64 mt, .int .i64 r, .int .i64 dec, .int .i64 dra, .int .i64 ddec] 44)
   have ba:=(Below.refl _ w7).alloc (Nat.le_refl _) (.cells [.string s, .int .i64 mt, .int .i64 r, .int .i64 dec, .int .i64 dra, .int .i64 ddec].toArray 44)
   replace S7:=Lib.hid (S7.out.below ba)
   replace T7:=Lib.hid (T7.out.below ba)
   clear F5 K5 S5 T5 k7 M2 ba HY
   go_upto_region 17 with fail
   generalize World.alloc w7 _=w8 at *
   by_cases hg:g=0
   ·subst hg
    have TM:=turn_rem (E4.out rfl)
    have DF1:=Lib.hid (fun w'=>Turns.diff_any r ra w' (by omega) (by omega) (by omega) (by omega))
    have DF2:=Lib.hid (fun w'=>Turns.diff_any c 0 w' (by omega) (by omega) (by omega) (by omega))
    have B1:=Pl.dif_bd r ra
    have B2:=Pl.dif_bd c 0
    generalize Pl.dif r ra=d1 at *
    generalize Pl.dif c 0=d2 at *
    obtain⟨B1,B3⟩:=B1
    obtain⟨B2,B4⟩:=B2
    clear E4
    have EQ:∀ w',(Go.Op.equalIn 10000 44 (.agg #[.string s, .int .i64 mt, .int .i64 ra, .int .i64 dec, .int .i64 dra, .int .i64 ddec]) (.agg #[.string s, .int .i64 mt, .int .i64 ra, .int .i64 dec, .int .i64 dra, .int .i64 ddec])).run Tryz.prog w' = .ok true w':=fun w'=>at_eql s ⟨mt,ra,dec,dra,ddec⟩ w'
    go_upto_region 23 with(first|(go_at_call 18;refine(S2.out _ _ _ S7.out T7.out).mono ?_;rintro e w9 ⟨rfl,q,rfl⟩;have F9:=Lib.hid (F7.out.call (drewN_below2 (Below.refl _ w8) q));clear S2 S7 T7 F7;generalize World.drewN w8 q=w9 at *;have ca:=F9.out.cell 0 2 rfl rfl;have cb:=F9.out.cell 1 2 rfl rfl;have fa:=F9.out.fz 0 2 rfl rfl)|(go_at_call 19;first|(refine(DF1.out _).mono ?_;rintro e w10 ⟨rfl,rfl⟩;clear DF1)|(refine(DF2.out _).mono ?_;rintro e w10 ⟨rfl,rfl⟩;clear DF2)))
    clear ca cb fa
    replace F9:=Lib.hid (F9.out.set1c 0 (x:=.int .i64 ra) rfl)
    generalize World.setCell _ _ _=wf at *
    have a0:=F9.out.cell 0 0 rfl rfl
    have b0:=F9.out.cell 1 0 rfl rfl
    have a1:=F9.out.cell 0 1 rfl rfl
    have b1:=F9.out.cell 1 1 rfl rfl
    have a2:=F9.out.cell 0 2 rfl rfl
    have b2:=F9.out.cell 1 2 rfl rfl
    have a3:=F9.out.cell 0 3 rfl rfl
    have b3:=F9.out.cell 1 3 rfl rfl
    have a4:=F9.out.cell 0 4 rfl rfl
    have b4:=F9.out.cell 1 4 rfl rfl
    have a5:=F9.out.cell 0 5 rfl rfl
    have b5:=F9.out.cell 1 5 rfl rfl
    go_wp2_with fail
    exact bodyPost_ret (results_tmp rfl _ _ _) rfl ⟨rfl,F9.out.below⟩
   ·clear E4
    go_wp2_with (go_at_call 18;refine(S2.out _ _ _ S7.out T7.out).mono ?_;rintro e w9 ⟨rfl,q,rfl⟩;have F9:=Lib.hid (F7.out.call (drewN_below2 (Below.refl _ w8) q));clear S2 S7 T7 F7;generalize World.drewN w8 q=w9 at *)
    exact bodyPost_ret (results_tmp rfl _ _ _) rfl ⟨rfl,F9.out.below⟩
end Tw
end Go.Proofs.YtdnogmanbdgadaaGreatDoor
