/-
  Lemmas and walks, texts joined: MWalk3, MWalk4, MWalk5, MRef1, MRef2, MRef3, MRef5d.
-/
import Derived.Test.YtdnogmanbdgadaaGreatDoorTb01
set_option linter.unusedSimpArgs false
set_option linter.unusedVariables false
set_option maxRecDepth 100000
set_option maxHeartbeats 40000000
namespace Go.Proofs.YtdnogmanbdgadaaGreatDoor
namespace Mw
open Go.RowKit Go.Proofs.YtdnogmanbdgadaaGreatDoor.Mp Lw

abbrev dateV (y m d h i s u:Int):Value:=.agg #[.int .i64 y, .int .i64 m, .int .i64 d, .int .i64 h, .int .i64 i, .int .i64 s, .int .i64 u]

theorem begin_any (n y m:Int) (w:World) (h:IsYM n y m) (a:1971≤y) (b:y≤2100) :
  Calls Tryz.prog 136 #[.int .i64 n] w fun e w'=>e = .returned (.int .i64 (bgv n y m))∧Below w.heap.size w w':=by
 obtain⟨n1,n2⟩:=h.range a b
 have M1:=h.m1
 have M2:=h.m12
 have lb:=lps_bd (12*y+m-1)
 have Hh:=Lib.hid h
 clear h
 go_enter Tryz.func136,Tryz.ntmps136
 go_wp2_with (first|(go_at_call 167;refine(calendar_any n y m _ Hh.out a b).mono ?_;rintro e w' ⟨rfl,rfl⟩)|(go_at_call 190;refine(leap_any _ _).mono ?_;rintro e w1 ⟨rfl,hb⟩))
 go_ret
 exact⟨rfl,hb⟩

theorem ret_bool {a b:Bool} (h:a=b):Ending.returned (.bool a) = .returned (.bool b):=by rw[h]
theorem whole_any (y m d h i s u:Int) (w:World) :
  Calls Tryz.prog 134 #[dateV y m d h i s u] w fun e w'=>e = .returned (.bool (wholeB y m d))∧Below w.heap.size w w':=by
 go_enter Tryz.func134,Tryz.ntmps134
 go_wp2_with fail
 rotate_left
 rotate_left
 rotate_right
 ·have a1:1972≤y:=by omega
  have a2:y<2100:=by omega
  have a3:1≤m:=by omega
  have a4:m≤12:=by omega
  have a5:1≤d:=by omega
  have a6:d≤31:=by omega
  obtain⟨ml1,ml2⟩:=mo_len y m a3 a4
  have dm:=dn_mo y m d
  have yr:=mo_year_le 1972 y a1
  have yr2:=mo_year_le (y+1) 2100 (by omega)
  have m1:=mo_le y 1 m (by omega) a3
  have m2:=mo_le y (m+1) 13 (by omega) (by omega)
  rw[mo_13] at m2
  rw[mo_year 1972] at yr
  rw[mo_year 2100] at yr2
  obtain⟨z,k,z1,z2,hz⟩:=ym_ex (dn y m d) (by omega) (by omega)
  have Dm:=Lib.hid dm
  clear dm ml1 ml2 yr yr2 m1 m2
  refine(days_any _ _ _ _ (by omega) (by omega) (by omega) (by omega) (by omega) (by omega)).mono ?_
  rintro e w' ⟨rfl,rfl⟩
  go_wp2_with fail
  refine(calendar_any _ z k _ hz z1 z2).mono ?_
  rintro e w' ⟨rfl,rfl⟩
  by_cases hw:wholeP y m d
  ·obtain⟨rfl,rfl⟩:=ym_uniq hz (wholeP_ym hw)
   have e3:dn z k d-mo z k+1=d:=by rw[Dm.out];omega
   rw[e3]
   clear e3
   go_wp2_with fail
   go_ret
   exact⟨ret_bool (by first|exact wholeB_yes hw|(rw[← wholeB_yes hw];simp)),(Below.refl _ _).alloc (Nat.le_refl _) _⟩
  ·have hne:¬ (z=y∧k=m):=by
    rintro ⟨rfl,rfl⟩
    have h1:=hz.hi
    rw[Dm.out] at h1
    exact hw ⟨a1,a2,a3,a4,a5,by omega⟩
   go_wp2_with fail
   all_goals
    go_ret
    exact⟨ret_bool (wholeB_no hw),(Below.refl _ _).alloc (Nat.le_refl _) _⟩
 all_goals
  go_ret
  exact⟨ret_bool (wholeB_no (fun ⟨b1,b2,b3,b4,b5,b6⟩=>by have:=mo_len y m b3 b4;omega)),(Below.refl _ _).alloc (Nat.le_refl _) _⟩

def FromPost (y m d h i s u:Int) (w:World) (e:Ending) (w':World):Prop:=∃ t c:Int,e = .returned (.tuple #[.int .i64 t, .int .i64 c])∧FromIs y m d h i s u t c∧Below w.heap.size w w'

theorem from_any (y m d h i s u:Int) (w:World) :
  Calls Tryz.prog 85 #[dateV y m d h i s u] w (FromPost y m d h i s u w):=by
 by_cases hw:wholeP y m d
 ·have hB:=(wholeB_iff y m d).2 hw
  have hI:=wholeP_ym hw
  obtain⟨n1,n2⟩:=wholeP_range hw
  obtain⟨z,k,z1,z2,hz⟩:=ym_ex (dn y m d+1) (by omega) (by omega)
  have Hl:=Lib.hid (day_len hw hz)
  have bd:=bgv_bd (dn y m d) y m (by omega) (by omega)
  have bd2:=bgv_bd (dn y m d+1) z k (by omega) (by omega)
  have Hw:=Lib.hid hw
  obtain⟨a1,a2,a3,a4,a5,a6⟩:=hw
  have a6:d≤31:=by have:=mo_len y m a3 a4;omega
  have HI:=Lib.hid hI
  have Hz:=Lib.hid hz
  clear hI hz
  go_enter Tryz.func85,Tryz.ntmps85
  go_wp2_with (first|(go_at_call 134;refine(whole_any _ _ _ _ _ _ _ _).mono ?_;rintro e w1 ⟨rfl,hb⟩;obtain⟨hc,hf⟩:=bcell hb)|(go_at_call 135;refine(days_any _ _ _ _ (by omega) (by omega) (by omega) (by omega) (by omega) (by omega)).mono ?_;rintro e w' ⟨rfl,rfl⟩))
  all_goals have hB1:=below_then ((Below.refl w.heap.size w).alloc (Nat.le_refl _) _) hb
  all_goals first|(go_ret2;exact⟨0,2,rfl,Or.inr ⟨fun ⟨_,k1,k2,k3,k4,k5,k6,k7,k8⟩=>by omega,rfl,rfl⟩,hB1⟩)|skip
  refine(begin_any _ y m _ HI.out (by omega) (by omega)).mono ?_
  rintro e w2 ⟨rfl,hb2⟩
  obtain⟨hc2,hf2⟩:=bcell hb2
  have hz1:w.heap.size<w1.heap.size:=by have:=hb.size;simp at this;omega
  have c5:w2.cell? ⟨w.heap.size,5,none⟩=some (.int .i64 s):=by
   rw[hc2 _ _ hz1,hc _ _ (by simp),World.cell?_alloc_at _ _ _ _ rfl];rfl
  have hB2:=below_then hB1 hb2
  go_wp2_with (go_at_call 136;refine(begin_any _ z k _ Hz.out (by omega) (by omega)).mono ?_;rintro e w3 ⟨rfl,hb3⟩)
  all_goals
   by_cases hs:s=60
   ·subst hs
    go_ret2
    by_cases hp:(3600*h+60*i+60)*1000000+u<86400000000∨bgv (dn y m d+1) z k≤bgv (dn y m d) y m+((3600*h+60*i+60)*1000000+u)
    ·first
      | exact⟨0,2,rfl,Or.inr ⟨from_60_no Hl.out rfl hp,rfl,rfl⟩,hB2⟩
      | exact⟨0,2,rfl,Or.inr ⟨from_60_no Hl.out rfl hp,rfl,rfl⟩,below_then hB2 hb3⟩
      | (exfalso;omega)
    ·first
      | (exfalso;omega)
      | exact⟨_,0,rfl,Or.inl ⟨from_60 Hw.out (by omega) (by omega) (by omega) (by omega) (by omega) (by omega) (by omega) Hl.out rfl (by omega) (by omega),rfl,rfl⟩,below_then hB2 hb3⟩
   ·first
     | (exfalso;omega)
     | (go_ret2;exact⟨_,0,rfl,Or.inl ⟨⟨Hw.out,by omega,by omega,by omega,by omega,by omega,by omega,by omega,Or.inl (by omega)⟩,rfl,rfl⟩,hB2⟩)
 ·have hB:=(wholeB_no hw).symm
  go_enter Tryz.func85,Tryz.ntmps85
  go_wp2_with (first|(go_at_call 134;refine(whole_any _ _ _ _ _ _ _ _).mono ?_;rintro e w1 ⟨rfl,hb⟩))
  go_ret2
  exact⟨0,2,rfl,Or.inr ⟨fun hok=>hw hok.1,rfl,rfl⟩,below_then ((Below.refl _ _).alloc (Nat.le_refl _) _) hb⟩
end Mw
namespace Mw
open Go.RowKit Go.Proofs.YtdnogmanbdgadaaGreatDoor.Mp Lw

theorem day_out (t:Int) (w:World) (h0:-9223372036854775808≤t) (h1:t≤9223372036854775807) (h:t<bgv (-10227) 1972 1∨bgv 36525 2100 1≤t) :
  Calls Tryz.prog 166 #[.int .i64 t] w fun e w'=>e = .returned (.tuple #[.int .i64 0, .int .i64 0, .int .i64 16])∧Below w.heap.size w w':=by
 have b1:=bgv_bd (-10227) 1972 1 (by omega) (by omega)
 have b2:=bgv_bd 36525 2100 1 (by omega) (by omega)
 have H:=Lib.hid h
 clear h
 go_enter Tryz.func166,Tryz.ntmps166
 go_wp2_with fail
 refine(days_any 1972 1 1 _ (by omega) (by omega) (by omega) (by omega) (by omega) (by omega)).mono ?_
 rintro e w' ⟨rfl,rfl⟩
 rw[dn_72]
 go_wp2_with fail
 refine(begin_any _ 1972 1 _ ym_72 (by omega) (by omega)).mono ?_
 rintro e w1 ⟨rfl,hb1⟩
 by_cases hc:t<bgv (-10227) 1972 1
 ·go_wp2_with fail
  go_ret3
  exact⟨rfl,hb1⟩
 ·have hd:bgv 36525 2100 1≤t:=by rcases H.out with h|h <;> omega
  go_wp2_with fail
  refine(days_any 2100 1 1 _ (by omega) (by omega) (by omega) (by omega) (by omega) (by omega)).mono ?_
  rintro e w' ⟨rfl,rfl⟩
  rw[dn_00]
  go_wp2_with fail
  refine(begin_any _ 2100 1 _ ym_00 (by omega) (by omega)).mono ?_
  rintro e w2 ⟨rfl,hb2⟩
  go_wp2_with fail
  go_ret3
  exact⟨rfl,below_then hb1 hb2⟩

theorem day_in (t n y m z k:Int) (w:World) (h:DayOf t n y m z k) (h1:¬ t<bgv (-10227) 1972 1) (h2:¬ bgv 36525 2100 1≤t) :
  Calls Tryz.prog 166 #[.int .i64 t] w fun e w'=>e = .returned (.tuple #[.int .i64 n, .int .i64 (t-bgv n y m), .int .i64 0])∧Below w.heap.size w w':=by
 have b1:=bgv_bd (-10227) 1972 1 (by omega) (by omega)
 have b2:=bgv_bd 36525 2100 1 (by omega) (by omega)
 obtain⟨g1,g2⟩:=h.guess
 obtain⟨p1,p2⟩:=h.pass
 have n1:=h.n1
 have n2:=h.n2
 have H:=Lib.hid h
 clear h
 go_enter Tryz.func166,Tryz.ntmps166
 go_wp2_with fail
 refine(days_any 1972 1 1 _ (by omega) (by omega) (by omega) (by omega) (by omega) (by omega)).mono ?_
 rintro e w' ⟨rfl,rfl⟩
 rw[dn_72]
 go_wp2_with fail
 refine(begin_any _ 1972 1 _ ym_72 (by omega) (by omega)).mono ?_
 rintro e w1 ⟨rfl,hb1⟩
 go_wp2_with fail
 refine(days_any 2100 1 1 _ (by omega) (by omega) (by omega) (by omega) (by omega) (by omega)).mono ?_
 rintro e w' ⟨rfl,rfl⟩
 rw[dn_00]
 go_wp2_with fail
 refine(begin_any _ 2100 1 _ ym_00 (by omega) (by omega)).mono ?_
 rintro e w2 ⟨rfl,hb2⟩
 have hB:=below_then hb1 hb2
 go_wp2_with fail
 go_loopw [2] (fun v wr=>∃ q:Int,n≤q∧q≤n+2∧v = .int .i64 q∧Below w.heap.size w wr) (fun v _=>(intOf v-n).toNat)
 case atStart=>exact⟨_,g1,g2,rfl,hB⟩
 case round =>
  obtain⟨q,q1,q2,rfl,hBr⟩:=hrel
  by_cases hq:q=n
  ·subst hq
   have e1:¬ t<bgv q y m:=by have:=H.out.lo;omega
   go_wp2_with (go_at_call 136;refine(begin_any _ y m _ H.out.ym (by have:=H.out.y1;omega) (by have:=H.out.y2;omega)).mono ?_;rintro e w3 ⟨rfl,hb3⟩)
   have hB3:=below_then hBr hb3
   go_loopw [2] (fun v wr=>v = .int .i64 q∧Below w.heap.size w wr) (fun _ _=>0)
   case atStart=>exact⟨rfl,hB3⟩
   case round =>
    obtain⟨rfl,hBs⟩:=hrel
    have e2:¬ bgv (q+1) z k≤t:=by have:=H.out.hi;omega
    obtain⟨zy,zz⟩:1971≤z∧z≤2100:=by
     have a1:=H.out.y1
     have a2:=H.out.y2
     have a3:=H.out.ym.m1
     have a4:=H.out.ym.m12
     have a5:=H.out.zk.m1
     have a6:=H.out.zk.m12
     rcases next_ym H.out.ym H.out.zk with⟨r1,_,_⟩|⟨r1,_⟩ <;> omega
    go_wp2_with fail
    refine(begin_any _ z k _ H.out.zk zy zz).mono ?_
    rintro e w4 ⟨rfl,hb4⟩
    have hB4:=below_then hBs hb4
    go_wp2_with fail
    refine(begin_any _ y m _ H.out.ym (by have:=H.out.y1;omega) (by have:=H.out.y2;omega)).mono ?_
    rintro e w5 ⟨rfl,hb5⟩
    have bq:=bgv_bd q y m (by omega) (by omega)
    go_wp2_with fail
    go_ret3
    exact⟨rfl,below_then hB4 hb5⟩
  ·obtain⟨y',m',y1',y2',hy⟩:=ym_ex q (by omega) (by omega)
   have e1:t<bgv q y' m':=by
    rcases Int.lt_or_le t (bgv q y' m') with e|e
    ·exact e
    ·have:=H.out.le hy e;omega
   go_wp2_with (go_at_call 136;refine(begin_any _ y' m' _ hy y1' y2').mono ?_;rintro e w3 ⟨rfl,hb3⟩)
   go_roundw
   case rel=>exact⟨q-1,by omega,by omega,rfl,below_then hBr hb3⟩
   case measure=>simp[intOf];omega
end Mw
namespace Mw
open Go.RowKit Go.Proofs.YtdnogmanbdgadaaGreatDoor.Mp Lw

theorem info7:(Tryz.prog.info? 91).map (·.size)=some 7:=by kernel_rfl
abbrev dateC (y m d h i s u:Int):List Value:=[.int .i64 y, .int .i64 m, .int .i64 d, .int .i64 h, .int .i64 i, .int .i64 s, .int .i64 u]

theorem toutc_out (t:Int) (w:World) (h0:-9223372036854775808≤t) (h1:t≤9223372036854775807) (h:t<bgv (-10227) 1972 1∨bgv 36525 2100 1≤t) :
  Calls Tryz.prog 117 #[.int .i64 t] w fun e w'=>e = .returned (.tuple #[dateV 0 0 0 0 0 0 0, .int .i64 16])∧Below w.heap.size w w':=by
 have H:=Lib.hid h
 clear h
 go_enter Tryz.func117,Tryz.ntmps117
 go_wp2_with fail
 refine(day_out t _ h0 h1 H.out).mono ?_
 rintro e w1 ⟨rfl,hb⟩
 have th:=there_below (there_new w _ _ 7 (by simp)) hb (by simp)
 have hB:=below_then ((Below.refl w.heap.size w).alloc (Nat.le_refl _) _) hb
 clear hb
 go_wp2_with (refine wpList_store_mid rfl _ (.tmp 2) (.tmp 18) rfl w.heap.size 0 _ rfl rfl ?_ info7 ?_ ?_;exact th;simp[Value.oneCell'])
 exact bodyPost_ret (ret_cell_tmp Tryz.results117 _ _ w.heap.size (dateC 0 0 0 0 0 0 0) _ rfl (World.rangeAt_setCells_same _ _ _ _ th) Tryz.underlying91 rfl info7) rfl ⟨rfl,below_setCells _ (Nat.le_refl _) _ _ _ hB⟩

theorem mo_bd2 {t n y m z k:Int} (h:DayOf t n y m z k):1≤n-mo y m+1∧n-mo y m+1≤31:=by
 have a:=mo_len y m h.ym.m1 h.ym.m12
 have b:=h.ym.lo
 have c:=h.ym.hi
 omega
theorem toutc_in (t n y m z k:Int) (w:World) (h:DayOf t n y m z k) (h1:bgv (-10227) 1972 1≤t) (h2:t<bgv 36525 2100 1) :
  Calls Tryz.prog 117 #[.int .i64 t] w fun e w'=>e = .returned (.tuple #[dateV y m (n-mo y m+1) (mins (t-bgv n y m)/60) (mins (t-bgv n y m) % 60) ((t-bgv n y m)/1000000-60*mins (t-bgv n y m)) ((t-bgv n y m) % 1000000), .int .i64 0])∧Below w.heap.size w w':=by
 obtain⟨p1,p2⟩:=h.pass
 have n1:=h.n1
 have n2:=h.n2
 have y1:=h.y1
 have y2:=h.y2
 have ml:=mo_bd2 h
 have H:=Lib.hid h
 have H1:=Lib.hid h1
 have H2:=Lib.hid h2
 clear h h1 h2
 generalize hp:t-bgv n y m=p at *
 have Hp:=Lib.hid hp
 clear hp
 go_enter Tryz.func117,Tryz.ntmps117
 go_wp2_with fail
 refine(day_in t n y m z k _ H.out (Int.not_lt.2 H1.out) (Int.not_le.2 H2.out)).mono ?_
 rintro e w1 ⟨rfl,hb⟩
 rw[Hp.out]
 have th:=there_below (there_new w _ _ 7 (by simp)) hb (by simp)
 have hB:=below_then ((Below.refl w.heap.size w).alloc (Nat.le_refl _) _) hb
 have hz:=hB.size
 clear hb
 go_wp2_with fail
 refine(calendar_any n y m _ H.out.ym (by omega) (by omega)).mono ?_
 rintro e w' ⟨rfl,rfl⟩
 go_wp2_with (refine wpList_store_mid rfl _ (.tmp 2) (.tmp 48) rfl w.heap.size 0 _ rfl rfl ?_ info7 ?_ ?_;exact World.there_alloc th _;simp[Value.oneCell'])
 all_goals
  by_cases hm:p/1000000/60≤1439
  ·have em:mins p=p/1000000/60:=if_pos hm
   first
    | (exfalso;omega)
    | exact bodyPost_ret (ret_cell_tmp Tryz.results117 _ _ w.heap.size (dateC y m (n-mo y m+1) (p/1000000/60/60) (p/1000000/60 % 60) (p/1000000-60*(p/1000000/60)) (p % 1000000)) _ rfl (World.rangeAt_setCells_same _ _ _ _ (World.there_alloc th _)) Tryz.underlying91 rfl info7) rfl ⟨by rw[em];rfl,below_setCells _ (Nat.le_refl _) _ _ _ (hB.alloc hz _)⟩
  ·have em:mins p=1439:=if_neg hm
   first
    | (exfalso;omega)
    | exact bodyPost_ret (ret_cell_tmp Tryz.results117 _ _ w.heap.size (dateC y m (n-mo y m+1) 23 59 (p/1000000-86340) (p % 1000000)) _ rfl (World.rangeAt_setCells_same _ _ _ _ (World.there_alloc th _)) Tryz.underlying91 rfl info7) rfl ⟨by rw[em];rfl,below_setCells _ (Nat.le_refl _) _ _ _ (hB.alloc hz _)⟩
end Mw
namespace Mw
open Go.RowKit Go.Proofs.YtdnogmanbdgadaaGreatDoor.Mp Lw

def julV:Array Value:=#[.int .i64 1972, .int .i64 1981, .int .i64 1982, .int .i64 1983, .int .i64 1985, .int .i64 1992, .int .i64 1993, .int .i64 1994, .int .i64 1997, .int .i64 2012, .int .i64 2015]
theorem one_jul:julV.all (·.oneCell')=true:=by simp[julV,Value.oneCell']
theorem julV_at (k:Nat) (hk:k<11):julV[k]? = some (.int .i64 (julAt k)):=by
 unfold julAt
 have:julV=(julL.map (Value.int .i64)).toArray:=rfl
 rw[this]
 simp[List.getD,List.getElem?_eq_getElem (show k<julL.length from hk)]
theorem info_jul:(Tryz.prog.info? 250).map (·.size)=some 11:=by kernel_rfl

def janV:Array Value:=#[.int .i64 1973, .int .i64 1974, .int .i64 1975, .int .i64 1976, .int .i64 1977, .int .i64 1978, .int .i64 1979, .int .i64 1980, .int .i64 1988, .int .i64 1990, .int .i64 1991, .int .i64 1996, .int .i64 1999, .int .i64 2006, .int .i64 2009, .int .i64 2017]
theorem one_jan:janV.all (·.oneCell')=true:=by simp[janV,Value.oneCell']
theorem janV_at (k:Nat) (hk:k<16):janV[k]? = some (.int .i64 (janAt k)):=by
 unfold janAt
 have:janV=(janL.map (Value.int .i64)).toArray:=rfl
 rw[this]
 simp[List.getD,List.getElem?_eq_getElem (show k<janL.length from hk)]
theorem info_jan:(Tryz.prog.info? 251).map (·.size)=some 16:=by kernel_rfl

def lenV:Array Value:=#[.int .i64 0, .int .i64 31, .int .i64 28, .int .i64 31, .int .i64 30, .int .i64 31, .int .i64 30, .int .i64 31, .int .i64 31, .int .i64 30, .int .i64 31, .int .i64 30, .int .i64 31]
theorem one_len:lenV.all (·.oneCell')=true:=by simp[lenV,Value.oneCell']
theorem lenV_at (k:Nat) (hk:k<13):lenV[k]? = some (.int .i64 (lenAt k)):=by
 unfold lenAt
 have:lenV=(lenL.map (Value.int .i64)).toArray:=rfl
 rw[this]
 simp[List.getD,List.getElem?_eq_getElem (show k<lenL.length from hk)]
theorem info_len:(Tryz.prog.info? 211).map (·.size)=some 13:=by kernel_rfl

theorem ret_v {k:IntKind} {a b:Int} (h:a=b):Value.int k a = .int k b:=by rw[h]

theorem leaps_any (y m:Int) (w:World) (h1:1≤m) (h2:m≤12) :
  Calls Tryz.prog 164 #[.int .i64 y, .int .i64 m] w fun e w'=>e = .returned (.int .i64 (lps (12*y+m-1)))∧Below w.heap.size w w':=by
 have Hr:=Lib.hid (rl_lps y m h1 h2)
 clear h1 h2
 go_enter Tryz.func164,Tryz.ntmps164
 go_wp2_with (first|(refine wpList_store_new rfl _ (.tmp 5) (.tmp 10) rfl _ julV rfl rfl info_jul (by decide) one_jul ?_)|(refine wpList_store_new_at rfl _ (.tmp 6) (.tmp 11) rfl _ janV _ ?_ rfl rfl info_jan (by decide) one_jan ?_;simp))
 have hc:∀ j,j<11→((w.alloc (.cells julV 250)).alloc (.cells janV 251)).cell? ⟨w.heap.size,j,none⟩=some (.int .i64 (julAt j)):=fun j hj=>by
  rw[World.cell?_alloc_past _ _ _ (by simp),World.cell?_alloc_at _ _ _ _ rfl,julV_at j hj]
 have hd:∀ j,j<16→((w.alloc (.cells julV 250)).alloc (.cells janV 251)).cell? ⟨w.heap.size+1,j,none⟩=some (.int .i64 (janAt j)):=fun j hj=>by
  rw[World.cell?_alloc_at _ _ _ _ (by simp),janV_at j hj]
 go_loop [7,8] (fun n i=>∃ j:Nat,j≤11∧i = .int .i64 j∧n = .int .i64 (rlj y m j)) (fun _ i=>11-(intOf i).toNat)
 case atStart=>exact⟨0,by omega,rfl,rfl⟩
 case round =>
  obtain⟨j,hj,rfl,rfl⟩:=hrel
  have lb:=rlj_bd y m j
  by_cases hlt:j<11
  ·have ck:=hc j hlt
   have es:rlj y m (j+1)=rlj y m j+if julAt j<y∨julAt j=y∧7≤m then 1 else 0:=rfl
   have Es:=Lib.hid es
   clear es hc hd
   have i1:(j:Int)<11:=by omega
   go_wp2
   all_goals
    go_round
    case rel=>exact⟨j+1,by omega,by go_num,by rw[Es.out];first|rw[if_pos (by omega)]|(rw[if_neg (by omega)];simp)⟩
    case measure=>simp[intOf];omega
  ·obtain rfl:j=11:=by omega
   clear hc
   go_wp2
   go_loop [7,9] (fun n i=>∃ j:Nat,j≤16∧i = .int .i64 j∧n = .int .i64 (rln y m j)) (fun _ i=>16-(intOf i).toNat)
   case atStart=>exact⟨0,by omega,rfl,rfl⟩
   case round =>
    obtain⟨j,hj,rfl,rfl⟩:=hrel
    have lb:=rln_bd y m j
    by_cases hlt:j<16
    ·have ck:=hd j hlt
     have es:rln y m (j+1)=rln y m j+if janAt j≤y then 1 else 0:=rfl
     have Es:=Lib.hid es
     clear es hd
     have i1:(j:Int)<16:=by omega
     go_wp2
     all_goals
      go_round
      case rel=>exact⟨j+1,by omega,by go_num,by rw[Es.out];first|rw[if_pos (by omega)]|(rw[if_neg (by omega)];simp)⟩
      case measure=>simp[intOf];omega
    ·obtain rfl:j=16:=by omega
     clear hd
     go_wp2
     go_ret
     exact⟨ret_int Hr.out,((Below.refl _ _).alloc (Nat.le_refl _) _).alloc (by simp) _⟩

theorem leapYear_any (y:Int) (w:World) (h:0≤y) :
  Calls Tryz.prog 165 #[.int .i64 y] w fun e w'=>e = .returned (.bool (leapB y))∧w=w':=by
 go_enter Tryz.func165,Tryz.ntmps165
 go_wp2
 all_goals
  go_ret
  refine⟨ret_bool ?_,rfl⟩
  unfold leapB
  simp[*]
end Mw
namespace Mw
open Go.RowKit Go.Proofs.YtdnogmanbdgadaaGreatDoor.Mp Lw

theorem leapB_split (y:Int):leapB y=true∨leapB y=false:=by cases leapB y <;> simp
theorem length_any (y m:Int) (w:World) (h:0≤y) (h1:1≤m) (h2:m≤12) :
  Calls Tryz.prog 115 #[.int .i64 y, .int .i64 m] w fun e w'=>e = .returned (.int .i64 (mo y (m+1)-mo y m))∧Below w.heap.size w w':=by
 obtain⟨k,rfl⟩:=Int.eq_ofNat_of_zero_le (show 0≤m by omega)
 have L2:=Lib.hid (len_two y)
 have La:=Lib.hid (fun h=>len_at y k (by omega) (by omega) h)
 have hk:k<13:=by omega
 have hc:∀ W:World,(W.alloc (.cells lenV 211)).cell? ⟨W.heap.size,k,none⟩=some (.int .i64 (lenAt k)):=fun W=>by
  rw[World.cell?_alloc_at _ _ _ _ rfl,lenV_at k hk]
 by_cases e2:k=2
 ·subst e2
  have c2:=hc w
  have v2:lenAt 2=28:=rfl
  rw[v2] at c2
  clear hc h1 h2 hk
  rcases leapB_split y with hl|hl
  ·have L:=L2.out
   rw[if_pos hl] at L
   have HL:=Lib.hid L
   clear L L2 La
   go_enter Tryz.func115,Tryz.ntmps115
   go_wp2_with (first|(go_at_call 165;refine(leapYear_any _ _ h).mono ?_;rintro e w' ⟨rfl,rfl⟩))
   go_ret
   exact⟨ret_int HL.out.symm,Below.refl _ _⟩
  ·have L:=L2.out
   rw[hl] at L
   have HL:=Lib.hid L
   clear L L2 La
   go_enter Tryz.func115,Tryz.ntmps115
   go_wp2_with (first|(go_at_call 165;refine(leapYear_any _ _ h).mono ?_;rintro e w' ⟨rfl,rfl⟩)|(refine wpList_store_new rfl _ (.tmp 5) (.tmp 12) rfl _ lenV rfl rfl info_len (by decide) one_len ?_))
   go_ret
   exact⟨ret_int (by rw[show ((2:Nat):Int)+1=3 by omega,show ((2:Nat):Int)=2 by omega];exact HL.out.symm),(Below.refl _ _).alloc (Nat.le_refl _) _⟩
 ·have L:=La.out e2
  have HL:=Lib.hid L
  have c2:=hc w
  have e3:((k:Int)==2)=false:=beq_eq_false_iff_ne.2 (by omega)
  have i1:(k:Int)<13:=by omega
  clear L L2 La hc
  go_enter Tryz.func115,Tryz.ntmps115
  go_wp2_with (first|(refine wpList_store_new rfl _ (.tmp 5) (.tmp 12) rfl _ lenV rfl rfl info_len (by decide) one_len ?_))
  go_ret
  exact⟨ret_int HL.out.symm,(Below.refl _ _).alloc (Nat.le_refl _) _⟩

theorem before_any (y m:Int) (w:World) (h:1972≤y) (h':y≤2200) (h1:1≤m) (h2:m≤12) :
  Calls Tryz.prog 163 #[.int .i64 y, .int .i64 m] w fun e w'=>e = .returned (.int .i64 (mo y m+10227))∧Below w.heap.size w w':=by
 have mb:∀ z,1900≤z→z≤2201 → ∀ k,1≤k→k≤13 → -40000≤mo z k∧mo z k≤80000:=fun z a b k c d=>by unfold mo dn fday;split <;> omega
 have Mb:=Lib.hid mb
 clear mb
 go_enter Tryz.func163,Tryz.ntmps163
 go_wp2_with fail
 go_loop [5,6] (fun n i=>∃ z:Int,1972≤z∧z≤y∧i = .int .i64 z∧n = .int .i64 (mo z 1+10227)) (fun _ i=>(y-intOf i).toNat)
 case atStart=>exact⟨1972,by omega,by omega,rfl,by rw[mo_1972];rfl⟩
 case round =>
  obtain⟨z,z1,z2,rfl,rfl⟩:=hrel
  obtain⟨b1,b2⟩:=Mb.out z (by omega) (by omega) 1 (by omega) (by omega)
  by_cases hz:z=y
  ·subst hz
   go_wp2_with fail
   go_loopw [5,7] (fun n i wr=>∃ k:Int,1≤k∧k≤m∧i = .int .i64 k∧n = .int .i64 (mo z k+10227)∧Below w.heap.size w wr) (fun _ i _=>(m-intOf i).toNat)
   case atStart=>exact⟨1,by omega,by omega,rfl,rfl,Below.refl _ _⟩
   case round =>
    obtain⟨k,k1,k2,rfl,rfl,hB⟩:=hrel
    obtain⟨b3,b4⟩:=Mb.out z (by omega) (by omega) k (by omega) (by omega)
    by_cases hk:k=m
    ·subst hk
     go_wp2_with fail
     go_ret
     exact⟨rfl,hB⟩
    ·have hk':k<m:=by omega
     obtain⟨b5,b6⟩:=Mb.out z (by omega) (by omega) (k+1) (by omega) (by omega)
     go_wp2_with (go_at_call 115;refine(length_any _ _ _ (by omega) (by omega) (by omega)).mono ?_;rintro e w2 ⟨rfl,hb⟩)
     go_roundw
     case rel=>exact⟨k+1,by omega,by omega,rfl,ret_v (by omega),below_then hB hb⟩
     case measure=>simp[intOf];omega
  ·have hz':z<y:=by omega
   have yl:=Lib.hid (yr_len z)
   rcases leapB_split z with hl|hl
   ·go_wp2_with (go_at_call 165;refine(leapYear_any _ _ (by omega)).mono ?_;rintro e w' ⟨rfl,rfl⟩)
    go_round
    case rel=>exact⟨z+1,by omega,by omega,rfl,by rw[yl.out,if_pos hl];exact ret_v (by omega)⟩
    case measure=>simp[intOf];omega
   ·go_wp2_with (go_at_call 165;refine(leapYear_any _ _ (by omega)).mono ?_;rintro e w' ⟨rfl,rfl⟩)
    go_round
    case rel=>exact⟨z+1,by omega,by omega,rfl,by rw[yl.out,if_neg (by simp[hl])];exact ret_v (by omega)⟩
    case measure=>simp[intOf];omega
end Mw
namespace Mw
open Go.RowKit Go.Proofs.YtdnogmanbdgadaaGreatDoor.Mp Lw

theorem mo_bds (z k:Int) (a:1900≤z) (b:z≤2201) (c:1≤k) (d:k≤13):-40000≤mo z k∧mo z k≤80000:=by unfold mo dn fday;split <;> omega

theorem begins_in (y m d:Int) (w:World) (h:1972≤y) (h':y≤2100) (h1:1≤m) (h2:m≤12) (h3:1≤d) (h4:d≤mo y (m+1)-mo y m) :
  Calls Tryz.prog 114 #[.int .i64 y, .int .i64 m, .int .i64 d] w fun e w'=>e = .returned (.int .i64 (bgv (mo y m+d-1) y m))∧Below w.heap.size w w':=by
 obtain⟨ml1,ml2⟩:=mo_len y m h1 h2
 have c1:¬ mo y (m+1)-mo y m<d:=by omega
 have hl:=lps_bd (12*(y)+m-1)
 obtain⟨b3,b4⟩:=mo_bds (y) (m) (by omega) (by omega) (by omega) (by omega)
 have Fin:=Lib.hid (show (mo (y) (m)+10227+(d-1)-(mo 2000 1+10227))*86400*1000000-43200000000+lps (12*(y)+m-1)*1000000+32184000=bgv (mo (y) (m)+d-1) (y) (m) by rw[mo_2000];unfold bgv;omega)
 go_enter Tryz.func114,Tryz.ntmps114
 go_wp2_with fail
 refine(length_any _ _ _ (by omega) (by omega) (by omega)).mono ?_
 rintro e w1 ⟨rfl,hb1⟩
 go_wp2_with fail
 refine(before_any _ _ _ (by omega) (by omega) (by omega) (by omega)).mono ?_
 rintro e w2 ⟨rfl,hb2⟩
 have hB2:=below_then hb1 hb2
 go_wp2_with fail
 refine(before_any _ _ _ (by omega) (by omega) (by omega) (by omega)).mono ?_
 rintro e w3 ⟨rfl,hb3⟩
 have hB3:=below_then hB2 hb3
 have m20:mo 2000 1≤0∧0≤mo 2000 1:=by rw[mo_2000];omega
 go_wp2_with fail
 refine(leaps_any _ _ _ (by omega) (by omega)).mono ?_
 rintro e w4 ⟨rfl,hb4⟩
 have hB4:=below_then hB3 hb4
 go_wp2_with fail
 go_ret
 exact⟨ret_int Fin.out,hB4⟩

abbrev rdateV (y m d h i s u:Int):Value:=.agg #[.int .i64 y, .int .i64 m, .int .i64 d, .int .i64 h, .int .i64 i, .int .i64 s, .int .i64 u]
end Mw
namespace Mw
open Go.RowKit Go.Proofs.YtdnogmanbdgadaaGreatDoor.Mp Lw

theorem rinfo7:(Tryz.prog.info? 91).map (·.size)=some 7:=by kernel_rfl
abbrev rdateC (y m d h i s u:Int):List Value:=[.int .i64 y, .int .i64 m, .int .i64 d, .int .i64 h, .int .i64 i, .int .i64 s, .int .i64 u]

theorem b72:bgv (mo 1972 1+1-1) 1972 1=bgv (-10227) 1972 1:=by rw[mo_1972];rfl
theorem mo_2100:mo 2100 1=36525:=by decide
theorem b00:bgv (mo 2100 1+1-1) 2100 1=bgv 36525 2100 1:=by rw[mo_2100];rfl
theorem rday_out (t:Int) (w:World) (h0:-9223372036854775808≤t) (h1:t≤9223372036854775807) (h:t<bgv (-10227) 1972 1∨bgv 36525 2100 1≤t) :
  Calls Tryz.prog 74 #[.int .i64 t] w fun e w'=>e = .returned (.tuple #[rdateV 0 0 0 0 0 0 0, .int .i64 0, .bool false])∧Below w.heap.size w w':=by
 have H:=Lib.hid h
 clear h
 go_enter Tryz.func74,Tryz.ntmps74
 go_wp2_with fail
 refine(begins_in 1972 1 1 _ (by omega) (by omega) (by omega) (by omega) (by omega) (by have:=mo_len 1972 1 (by omega) (by omega);omega)).mono ?_
 rintro e w1 ⟨rfl,hb⟩
 rw[b72]
 have th:=there_below (there_new w _ _ 7 (by simp)) hb (by simp)
 have hB:=below_then ((Below.refl w.heap.size w).alloc (Nat.le_refl _) _) hb
 have hz:w.heap.size<w1.heap.size:=by have:=hb.size;simp at this;omega
 clear hb
 by_cases hc:t<bgv (-10227) 1972 1
 ·go_wp2_with (refine wpList_store_mid rfl _ (.tmp 2) (.tmp 16) rfl w.heap.size 0 _ rfl rfl ?_ rinfo7 ?_ ?_;exact th;simp[Value.oneCell'])
  exact bodyPost_ret (ret_cell_tmp2 Tryz.results74 _ _ w.heap.size (rdateC 0 0 0 0 0 0 0) _ rfl (World.rangeAt_setCells_same _ _ _ _ th) Tryz.underlying91 rfl rinfo7) rfl ⟨rfl,below_setCells _ (Nat.le_refl _) _ _ _ hB⟩
 ·have hd:bgv 36525 2100 1≤t:=by rcases H.out with h|h <;> omega
  go_wp2_with fail
  refine(begins_in 2100 1 1 _ (by omega) (by omega) (by omega) (by omega) (by omega) (by have:=mo_len 2100 1 (by omega) (by omega);omega)).mono ?_
  rintro e w2 ⟨rfl,hb2⟩
  rw[b00]
  have th2:=there_below th hb2 hz
  have hB2:=below_then hB hb2
  clear hb2
  go_wp2_with (refine wpList_store_mid rfl _ (.tmp 2) (.tmp 16) rfl w.heap.size 0 _ rfl rfl ?_ rinfo7 ?_ ?_;exact th2;simp[Value.oneCell'])
  exact bodyPost_ret (ret_cell_tmp2 Tryz.results74 _ _ w.heap.size (rdateC 0 0 0 0 0 0 0) _ rfl (World.rangeAt_setCells_same _ _ _ _ th2) Tryz.underlying91 rfl rinfo7) rfl ⟨rfl,below_setCells _ (Nat.le_refl _) _ _ _ hB2⟩

theorem rday_in (t n y m z k:Int) (w:World) (h:DayOf t n y m z k) (h1:bgv (-10227) 1972 1≤t) (h2:t<bgv 36525 2100 1) :
  Calls Tryz.prog 74 #[.int .i64 t] w fun e w'=>e = .returned (.tuple #[rdateV y m (n-mo y m+1) 0 0 0 0, .int .i64 (t-bgv n y m), .bool true])∧Below w.heap.size w w':=by
 have y1:=h.y1
 have y2:=h.y2
 have M1:=h.ym.m1
 have M2:=h.ym.m12
 have n1:=h.n1
 have n2:=h.n2
 obtain⟨p1,p2⟩:=h.pass
 have bq:=bgv_bd n y m (by omega) (by omega)
 obtain⟨ml1,ml2⟩:=mo_len y m M1 M2
 have lo:=h.ym.lo
 have hi:=h.ym.hi
 have H:=Lib.hid h
 have H1:=Lib.hid h1
 have H2:=Lib.hid h2
 clear h h1 h2
 go_enter Tryz.func74,Tryz.ntmps74
 go_wp2_with fail
 refine(begins_in 1972 1 1 _ (by omega) (by omega) (by omega) (by omega) (by omega) (by have:=mo_len 1972 1 (by omega) (by omega);omega)).mono ?_
 rintro e w1 ⟨rfl,hb⟩
 rw[b72]
 have th:=there_below (there_new w _ _ 7 (by simp)) hb (by simp)
 have hB:=below_then ((Below.refl w.heap.size w).alloc (Nat.le_refl _) _) hb
 have hz:w.heap.size<w1.heap.size:=by have:=hb.size;simp at this;omega
 clear hb
 have h1:=H1.out
 go_wp2_with fail
 refine(begins_in 2100 1 1 _ (by omega) (by omega) (by omega) (by omega) (by omega) (by have:=mo_len 2100 1 (by omega) (by omega);omega)).mono ?_
 rintro e w2 ⟨rfl,hb2⟩
 rw[b00]
 have th2:=there_below th hb2 hz
 have hB2:=below_then hB hb2
 have hz2:w.heap.size<w2.heap.size:=by have:=hb2.size;omega
 have h2:=H2.out
 clear hb2 hB th
 go_wp2_with fail
 clear h1 h2
 go_loopw [5] (fun v wr=>∃ q:Int,y≤q∧q≤2099∧v = .int .i64 q∧Below w.heap.size w wr∧wr.there w.heap.size 0 7∧w.heap.size<wr.heap.size) (fun v _=>(intOf v-y).toNat)
 case atStart=>exact⟨2099,by omega,by omega,rfl,hB2,th2,hz2⟩
 case round =>
  clear hB2 th2 hz2 hz
  obtain⟨q,q1,q2,rfl,hB,th,hz⟩:=hrel
  by_cases hq:q=y
  ·subst hq
   have e1:¬ t<bgv (mo q 1) q 1:=by
    have:=bgv_mono H.out.ym (ym_first q 1 (by omega) (by omega)) (by have:=mo_le q 1 m (by omega) M1;omega)
    have:=H.out.lo;omega
   go_wp2_with (go_at_call 114;refine(begins_in _ 1 1 _ (by omega) (by omega) (by omega) (by omega) (by omega) (by have:=mo_len q 1 (by omega) (by omega);omega)).mono ?_;rintro e w3 ⟨rfl,hb3⟩)
   have hB3:=below_then hB hb3
   have th3:=there_below th hb3 hz
   have hz3:w.heap.size<w3.heap.size:=by have:=hb3.size;omega
   clear hB th hz hb3 e1
   go_loopw [6] (fun v wr=>∃ j:Int,m≤j∧j≤12∧v = .int .i64 j∧Below w.heap.size w wr∧wr.there w.heap.size 0 7∧w.heap.size<wr.heap.size) (fun v _=>(intOf v-m).toNat)
   case atStart=>exact⟨12,by omega,by omega,rfl,hB3,th3,hz3⟩
   case round =>
    clear hB3 th3 hz3
    obtain⟨j,j1,j2,rfl,hB,th,hz⟩:=hrel
    by_cases hj:j=m
    ·subst hj
     have e1:¬ t<bgv (mo q j) q j:=by
      have:=bgv_mono H.out.ym (ym_first q j (by omega) (by omega)) (by omega)
      have:=H.out.lo;omega
     go_wp2_with (first|(go_at_call 114;refine(begins_in _ _ 1 _ (by omega) (by omega) (by omega) (by omega) (by omega) (by omega)).mono ?_;rintro e w4 ⟨rfl,hb4⟩)|(go_at_call 115;refine(length_any _ _ _ (by omega) (by omega) (by omega)).mono ?_;rintro e w5 ⟨rfl,hb5⟩))
     have hB5:=below_then (below_then hB hb4) hb5
     have th5:=there_below (there_below th hb4 hz) hb5 (by have:=hb4.size;omega)
     have hz5:w.heap.size<w5.heap.size:=by have:=hb4.size;have:=hb5.size;omega
     clear hB th hz hb4 hb5 e1
     go_loopw [7] (fun v wr=>∃ d:Int,n-mo q j+1≤d∧d≤mo q (j+1)-mo q j∧v = .int .i64 d∧Below w.heap.size w wr∧wr.there w.heap.size 0 7∧w.heap.size<wr.heap.size) (fun v _=>(intOf v-(n-mo q j+1)).toNat)
     case atStart=>exact⟨_,by omega,by omega,rfl,hB5,th5,hz5⟩
     case round =>
      clear hB5 th5 hz5
      obtain⟨d,d1,d2,rfl,hB,th,hz⟩:=hrel
      by_cases hd:d=n-mo q j+1
      ·have en:mo q j+d-1=n:=by omega
       have Hd:=Lib.hid hd
       have e1:¬ t<bgv n q j:=by have:=H.out.lo;omega
       clear hd
       go_wp2_with fail
       refine(begins_in _ _ _ _ (by omega) (by omega) (by omega) (by omega) (by omega) (by omega)).mono ?_
       rintro e w6 ⟨rfl,hb6⟩
       rw[en]
       have hB6:=below_then hB hb6
       have th6:=there_below th hb6 hz
       have hz6:w.heap.size<w6.heap.size:=by have:=hb6.size;omega
       have En:=Lib.hid en
       clear hB th hz hb6 en
       go_wp2_with fail
       refine(begins_in _ _ _ _ (by omega) (by omega) (by omega) (by omega) (by omega) (by omega)).mono ?_
       rintro e w7 ⟨rfl,hb7⟩
       rw[En.out]
       have hB7:=below_then hB6 hb7
       have th7:=there_below th6 hb7 hz6
       clear hB6 th6 hz6 hb7
       go_wp2_with (refine wpList_store_mid rfl _ (.tmp 2) (.tmp 44) rfl w.heap.size 0 _ rfl rfl ?_ rinfo7 ?_ ?_;exact th7;simp[Value.oneCell'])
       exact bodyPost_ret (ret_cell_tmp2 Tryz.results74 _ _ w.heap.size (rdateC q j d 0 0 0 0) _ rfl (World.rangeAt_setCells_same _ _ _ _ th7) Tryz.underlying91 rfl rinfo7) rfl ⟨by rw[← Hd.out];rfl,below_setCells _ (Nat.le_refl _) _ _ _ hB7⟩
      ·have e1:t<bgv (mo q j+d-1) q j:=H.out.gt ⟨M1,M2,by omega,by omega⟩ (by omega)
       go_wp2_with (go_at_call 114;refine(begins_in _ _ _ _ (by omega) (by omega) (by omega) (by omega) (by omega) (by omega)).mono ?_;rintro e w6 ⟨rfl,hb6⟩)
       go_roundw
       case rel=>exact⟨d-1,by omega,by omega,rfl,below_then hB hb6,there_below th hb6 hz,by have:=hb6.size;omega⟩
       case measure=>simp[intOf];omega
    ·have e1:t<bgv (mo q j) q j:=by
      exact H.out.gt (ym_first q j (by omega) (by omega)) (by have:=mo_le q (m+1) j (by omega) (by omega);omega)
     go_wp2_with (go_at_call 114;refine(begins_in _ _ 1 _ (by omega) (by omega) (by omega) (by omega) (by omega) (by have:=mo_len q j (by omega) (by omega);omega)).mono ?_;rintro e w4 ⟨rfl,hb4⟩)
     go_roundw
     case rel=>exact⟨j-1,by omega,by omega,rfl,below_then hB hb4,there_below th hb4 hz,by have:=hb4.size;omega⟩
     case measure=>simp[intOf];omega
  ·have e1:t<bgv (mo q 1) q 1:=by
    exact H.out.gt (ym_first q 1 (by omega) (by omega)) (by have:=mo_year_le (y+1) q (by omega);have:=H.out.ym.yhi;omega)
   go_wp2_with (go_at_call 114;refine(begins_in _ 1 1 _ (by omega) (by omega) (by omega) (by omega) (by omega) (by have:=mo_len q 1 (by omega) (by omega);omega)).mono ?_;rintro e w3 ⟨rfl,hb3⟩)
   go_roundw
   case rel=>exact⟨q-1,by omega,by omega,rfl,below_then hB hb3,there_below th hb3 hz,by have:=hb3.size;omega⟩
   case measure=>simp[intOf];omega
end Mw
end Go.Proofs.YtdnogmanbdgadaaGreatDoor
