/-
  Lemmas and walks, texts joined: MRef6.
-/
import Derived.Test.YtdnogmanbdgadaaGreatDoorTb02
set_option linter.unusedSimpArgs false
set_option linter.unusedVariables false
set_option maxRecDepth 100000
set_option maxHeartbeats 40000000
namespace Go.Proofs.YtdnogmanbdgadaaGreatDoor
namespace Mw
open Go.RowKit Go.Proofs.YtdnogmanbdgadaaGreatDoor.Mp Lw

theorem rtoutc_out (t:Int) (w:World) (h0:-9223372036854775808≤t) (h1:t≤9223372036854775807) (h:t<bgv (-10227) 1972 1∨bgv 36525 2100 1≤t) :
  Calls Tryz.prog 41 #[.int .i64 t] w fun e w'=>e = .returned (.tuple #[rdateV 0 0 0 0 0 0 0, .int .i64 16])∧Below w.heap.size w w':=by
 have H:=Lib.hid h
 clear h
 go_enter Tryz.func41,Tryz.ntmps41
 go_wp2_with fail
 refine(rday_out t _ h0 h1 H.out).mono ?_
 rintro e w1 ⟨rfl,hb⟩
 have th:=there_below (there_new w _ _ 7 (by simp)) hb (by simp)
 have hB:=below_then ((Below.refl w.heap.size w).alloc (Nat.le_refl _) _) hb
 have hz:=hB.size
 clear hb
 go_wp2_with (first|(refine wpList_store_mid rfl _ (.tmp 2) (.tmp 16) rfl w.heap.size 0 _ rfl rfl ?_ rinfo7 ?_ ?_;exact World.there_alloc th _;simp[Value.oneCell'])|(refine wpList_store_new rfl _ (.tmp 4) (.tmp 11) rfl _ _ rfl rfl rinfo7 rfl ?_ ?_;simp[Value.oneCell']))
 exact bodyPost_ret (ret_cell_tmp Tryz.results41 _ _ w.heap.size (rdateC 0 0 0 0 0 0 0) _ rfl (World.rangeAt_setCells_same _ _ _ _ (World.there_alloc th _)) Tryz.underlying91 rfl rinfo7) rfl ⟨rfl,below_setCells _ (Nat.le_refl _) _ _ _ (hB.alloc hz _)⟩

theorem hms_1 (p:Int) (h0:0≤p) (h:p<86401000000) (c:86400≤p/1000000):mins p/60=23∧mins p % 60=59∧p/1000000-60*mins p=60:=by
 unfold mins;rw[if_neg (by omega)];omega
theorem hms_2 (p:Int) (h0:0≤p) (c:¬ 86400≤p/1000000):mins p/60=p/1000000/3600∧mins p % 60=p/1000000/60 % 60∧p/1000000-60*mins p=p/1000000 % 60:=by
 unfold mins;rw[if_pos (by omega)];omega

theorem rtoutc_in (t n y m z k:Int) (w:World) (h:DayOf t n y m z k) (h1:bgv (-10227) 1972 1≤t) (h2:t<bgv 36525 2100 1) :
  Calls Tryz.prog 41 #[.int .i64 t] w fun e w'=>e = .returned (.tuple #[rdateV y m (n-mo y m+1) (mins (t-bgv n y m)/60) (mins (t-bgv n y m) % 60) ((t-bgv n y m)/1000000-60*mins (t-bgv n y m)) ((t-bgv n y m) % 1000000), .int .i64 0])∧Below w.heap.size w w':=by
 obtain⟨p1,p2⟩:=h.pass
 have H:=Lib.hid h
 have H1:=Lib.hid h1
 have H2:=Lib.hid h2
 clear h h1 h2
 generalize hp:t-bgv n y m=p at *
 have Hp:=Lib.hid hp
 clear hp
 by_cases hc:86400≤p/1000000
 ·have G:=Lib.hid (hms_1 p p1 p2 hc)
  go_enter Tryz.func41,Tryz.ntmps41
  go_wp2_with fail
  refine(rday_in t n y m z k _ H.out H1.out H2.out).mono ?_
  rintro e w1 ⟨rfl,hb⟩
  rw[Hp.out]
  have th:=there_below (there_new w _ _ 7 (by simp)) hb (by simp)
  have hB:=below_then ((Below.refl w.heap.size w).alloc (Nat.le_refl _) _) hb
  have hz:=hB.size
  clear hb
  go_wp2_with (first|(refine wpList_store_mid rfl _ (.tmp 2) (.tmp 27) rfl w.heap.size 0 _ rfl rfl ?_ rinfo7 ?_ ?_;exact World.there_alloc th _;simp[Value.oneCell'])|(refine wpList_store_new rfl _ (.tmp 4) (.tmp 11) rfl _ _ rfl rfl rinfo7 rfl ?_ ?_;simp[Value.oneCell']))
  refine bodyPost_ret (ret_cell_tmp Tryz.results41 _ _ w.heap.size (rdateC y m (n-mo y m+1) 23 59 60 (p % 1000000)) _ rfl (World.rangeAt_setCells_same _ _ _ _ (World.there_alloc th _)) Tryz.underlying91 rfl rinfo7) rfl ⟨?_,below_setCells _ (Nat.le_refl _) _ _ _ (hB.alloc hz _)⟩
  obtain⟨g1,g2,g3⟩:=G.out
  rw[g1,g2,g3]
  rfl
 ·have G:=Lib.hid (hms_2 p p1 hc)
  go_enter Tryz.func41,Tryz.ntmps41
  go_wp2_with fail
  refine(rday_in t n y m z k _ H.out H1.out H2.out).mono ?_
  rintro e w1 ⟨rfl,hb⟩
  rw[Hp.out]
  have th:=there_below (there_new w _ _ 7 (by simp)) hb (by simp)
  have hB:=below_then ((Below.refl w.heap.size w).alloc (Nat.le_refl _) _) hb
  have hz:=hB.size
  clear hb
  go_wp2_with (first|(refine wpList_store_mid rfl _ (.tmp 2) (.tmp 38) rfl w.heap.size 0 _ rfl rfl ?_ rinfo7 ?_ ?_;exact World.there_alloc th _;simp[Value.oneCell'])|(refine wpList_store_new rfl _ (.tmp 4) (.tmp 11) rfl _ _ rfl rfl rinfo7 rfl ?_ ?_;simp[Value.oneCell']))
  refine bodyPost_ret (ret_cell_tmp Tryz.results41 _ _ w.heap.size (rdateC y m (n-mo y m+1) (p/1000000/3600) (p/1000000/60 % 60) (p/1000000 % 60) (p % 1000000)) _ rfl (World.rangeAt_setCells_same _ _ _ _ (World.there_alloc th _)) Tryz.underlying91 rfl rinfo7) rfl ⟨?_,below_setCells _ (Nat.le_refl _) _ _ _ (hB.alloc hz _)⟩
  obtain⟨g1,g2,g3⟩:=G.out
  rw[g1,g2,g3]
  rfl
end Mw
end Go.Proofs.YtdnogmanbdgadaaGreatDoor
