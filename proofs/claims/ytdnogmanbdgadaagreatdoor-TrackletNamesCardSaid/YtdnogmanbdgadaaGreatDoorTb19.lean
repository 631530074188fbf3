/-
  Lemmas and walks, texts joined: WRight, WDiv0, WDiv1, WDiv2, WDiv, WAdd.
-/
import Derived.Deep.RegionHeld3
import Derived.Test.YtdnogmanbdgadaaGreatDoorTb18
import Derived.Test.YtdnogmanbdgadaaGreatDoorTb17
set_option linter.unusedSimpArgs false
set_option linter.unusedVariables false
set_option maxRecDepth 100000
set_option maxHeartbeats 40000000
namespace Go.Proofs.YtdnogmanbdgadaaGreatDoor
namespace Wd
open Go.RowKit Lw Go.Shelf
attribute [local go_sem] Oper.semAt_some

theorem Boxed.drew' {W:World} {B:Nat} {t:TypeId} {v:Value} (h:Boxed W B t v):Boxed W.drew B t v:=h
theorem Boxed.far {W:World} {B b o:Nat} {t:TypeId} {v u:Value} (h:Boxed W B t v) (hne:B≠b):Boxed (W.setCell ⟨b,o,none⟩ u) B t v:=h.kept (grownBy_set2 _ _ _ _) (by simpa using hne)
theorem right_walk (l:List Nat) (A:Option Addr) (n cap s:Nat) (w:World) (hA:Lim w A n cap l) (hs:s≤31) :
  Calls Tryz.prog 233 #[.slice A n cap, .int .i64 (s:Int)] w fun e w'=>∃ b L,e = .returned (.tuple #[.slice (some ⟨w.heap.size+1,0,none⟩) n n, .bool b])∧L.length=n∧Lb L∧val L=val l/2 ^ s∧Arr w' (w.heap.size+1) L∧Below w.heap.size w w':=by
 have la:=hA.len
 have sa:=hA.sm
 have cpa:=hA.cp
 have hmk:=make_nu n sa
 have ht0:=take_run A n cap 0 (by omega)
 have hf0:=from_run A n cap cpa
 have k1:(s:Int).tdiv 32=0:=Int.tdiv_eq_zero_of_lt (by omega) (by omega)
 have k2:(s:Int).tmod 32=(s:Int):=Int.tmod_eq_of_lt (by omega) (by omega)
 have k3:(0:Int)≤(n:Int):=by omega
 have k4:min (0:Int) (n:Int)=0:=by omega
 have h31:(2:Nat) ^ s≤2147483648:=Nat.pow_le_pow_right (show 0<2 by decide) hs
 have hp2:=Nat.two_pow_pos s
 refine(callsIn_wide (n:=3)).1 ?_
 refine callsIn_of_wp_marks Tryz.func233 rfl trivial ?_ rfl
 simp only[Tryz.ntmps233,List.size_toArray,List.length_cons,List.length_nil,Nat.reduceAdd,Nat.reduceSub,Array.replicate_succ,Array.replicate_zero,List.push_toArray,List.append_toArray,List.nil_append,List.cons_append]
 gi_wp2_with (refine⟨trivial,?_⟩;first|(gi_at_call 247;refine(callsIn_wide.2 (contains_nil _ _ _ _)).mono ?_;rintro e w' ⟨rfl,rfl⟩)|(gi_at_call 238;refine(callsIn_wide.2 (down_walk _ _ _ _)).mono ?_;rintro e w' ⟨rfl,rfl⟩))
 have bD:=Boxed.new w 3 (.int .i64 (s:Int))
 have aG:=Arr.nu (w.alloc (.cells #[.int .i64 (s:Int)] 3)) n
 have bO:=Boxed.new ((w.alloc (.cells #[.int .i64 (s:Int)] 3)).alloc (.cells (nu n) 170)) 64 (.slice (some ⟨w.heap.size+1,0,none⟩) n n)
 have bR:=Boxed.new (((w.alloc (.cells #[.int .i64 (s:Int)] 3)).alloc (.cells (nu n) 170)).alloc (.cells #[.slice (some ⟨w.heap.size+1,0,none⟩) n n] 64)) 80 (.int .u64 0)
 have bL:=Boxed.new ((((w.alloc (.cells #[.int .i64 (s:Int)] 3)).alloc (.cells (nu n) 170)).alloc (.cells #[.slice (some ⟨w.heap.size+1,0,none⟩) n n] 64)).alloc (.cells #[.int .u64 0] 80)) 64 (.slice A n cap)
 simp only[World.size_alloc] at aG bO bR bL
 have aG2:=((aG.below ((Below.refl _ _).alloc (Nat.le_refl _) (.cells #[.slice (some ⟨w.heap.size+1,0,none⟩) n n] 64))).below ((Below.refl _ _).alloc (Nat.le_refl _) (.cells #[.int .u64 0] 80))).below ((Below.refl _ _).alloc (Nat.le_refl _) (.cells #[.slice A n cap] 64))
 have hB0:Below w.heap.size w (((((w.alloc (.cells #[.int .i64 (s:Int)] 3)).alloc (.cells (nu n) 170)).alloc (.cells #[.slice (some ⟨w.heap.size+1,0,none⟩) n n] 64)).alloc (.cells #[.int .u64 0] 80)).alloc (.cells #[.slice A n cap] 64)) :=
  (((((Below.refl _ w).alloc (Nat.le_refl _) _).alloc (by simp) _).alloc (by simp;omega) _).alloc (by simp;omega) _).alloc (by simp;omega) _
 have bD2:=(((bD.alloc (.cells (nu n) 170)).alloc (.cells #[.slice (some ⟨w.heap.size+1,0,none⟩) n n] 64)).alloc (.cells #[.int .u64 0] 80)).alloc (.cells #[.slice A n cap] 64)
 have bO2:=(bO.alloc (.cells #[.int .u64 0] 80)).alloc (.cells #[.slice A n cap] 64)
 have bR2:=bR.alloc (.cells #[.slice A n cap] 64)
 have hmx:Tryz.prog.follows .mixedOrders=true:=by kernel_rfl
 refine wpIn_rangeFunc_ownG rfl (by omega) (gf:=249) (lb:=#[.pointer (some ⟨w.heap.size+1+1+1+1,0,none⟩)]) rfl trivial (enters_of Tryz.func249 (by kernel_rfl) rfl)
  (down_stops Fence.wide _ trivial rfl (by omega) (w.heap.size+1+1+1+1) l A n cap w _ hA hB0 bL) keepB_t (keepB_b (by simp;omega) (by simp)) (Below.refl _ _) (fun _=>rfl)
  (fun pre W=>(∃ L r,SH l (2 ^ s) (w.heap.size+1) n pre W L r∧Boxed W w.heap.size 3 (.int .i64 (s:Int))∧Boxed W (w.heap.size+1+1) 64 (.slice (some ⟨w.heap.size+1,0,none⟩) n n)∧Boxed W (w.heap.size+1+1+1) 80 (.int .u64 (r:Int)))∧Below w.heap.size w W)
  (fun _ _ _=>False)
  (OwnFrom.and (Own.from (fun s A B row hs hg hr=>by obtain⟨L,r,h1,h2,h3,h4⟩:=hs;exact⟨L,r,h1.own hg hr,Boxed.own h2 hg hr,Boxed.own h3 hg hr,Boxed.own h4 hg hr⟩) _) (ownFrom_below (Nat.le_refl _) (by simp;omega)))
  (fun _ _ _ _ _ hs _ _=>hs)
  ⟨⟨_,0,SH.zero l la hp2 aG2,bD2,bO2,bR2⟩,hB0⟩
  (fun x=>{ tmps:=#[.slice A n cap, .int .i64 (s:Int),undef, .pointer (some ⟨w.heap.size,0,none⟩), .slice none 0 0, .bool false, .int .i64 0, .bool false, .pointer (some ⟨w.heap.size+1+1,0,none⟩), .pointer (some ⟨w.heap.size+1+1+1,0,none⟩), .int .i64 (x.1:Int), .int .u32 (l[x.1]:Int), .int .i64 (s:Int), .int .i64 0, .slice A n cap, .int .i64 (n:Int), .int .i64 0, .slice A n cap, .int .i64 0, .slice A 0 cap, .bool false, .slice A n cap, .int .i64 (n:Int), .int .i64 0, .int .i64 (n:Int), .slice (some ⟨w.heap.size+1,0,none⟩) n n, .slice A n cap, .int .i64 0, .slice A n cap, .func (.func 249) #[] #[.pointer (some ⟨w.heap.size+1+1+1+1,0,none⟩)], .int .i64 (x.1:Int), .int .u32 (l[x.1]:Int),undef,undef,undef,undef,undef,undef,undef,undef,undef,undef,undef,undef,undef,undef,undef,undef,undef,undef,undef,undef,undef,undef,undef,undef,undef],defers:=[] }) ?assign ?body ?done ?stop
 case assign =>
  intro l x W K hK
  dsimp only[dnEnc]
  gi_wp2
  exact hK
 case body =>
  rintro lp pre x W ⟨⟨L,r,hS,hbD,hbO,hbR⟩,hB⟩ _
  have hx:=x.2
  have c1:=hbD.cell
  have c2:=hbO.cell
  have c3:=hbR.cell
  have f3:=hbR.frozen
  obtain⟨lx,c4⟩:∃ lx:Nat,W.cell? ⟨w.heap.size+1,x.1,none⟩=some (.int .u32 (lx:Int)):=⟨_,hS.arr.cell (k:=x.1) (by rw[hS.len];omega)⟩
  have f4:=hS.arr.free x.1
  have x1:(x.1:Int)<(n:Int):=by omega
  have hr:=hS.r1
  have xb:=lb_get hA.lb x.2
  have st:=fun W' hA'=>hS.step hA.lb (by omega) la x (W':=W') hA'
  have q32:=quo_lt hr xb
  have r1:=or_sum r l[x.1] (by omega) xb
  have hT:r*4294967296+l[x.1]<18446744073709551616:=by omega
  generalize hxv:l[x.1]=xv at *
  generalize hTT:r*4294967296+xv=T at *
  have r2:(T:Int)/2 ^ s=((T/2 ^ s:Nat):Int):=by rw[Int.natCast_ediv,Int.natCast_pow];rfl
  have r3:=and_mod T s hT hs
  have m31:T % 2 ^ s<2147483648:=Nat.lt_of_lt_of_le (Nat.mod_lt _ hp2) h31
  have r5:IntKind.u64.wrap ((2:Int) ^ s)=(2:Int) ^ s:=by
   rw[show (2:Int) ^ s=((2 ^ s:Nat):Int) by rw[Int.natCast_pow];rfl]
   exact IntWalk.u64_in _ (by omega)
  have r6:IntKind.u64.wrap ((2:Int) ^ s-1)=(2:Int) ^ s-1:=by
   rw[show (2:Int) ^ s=((2 ^ s:Nat):Int) by rw[Int.natCast_pow];rfl]
   exact IntWalk.u64_in _ (by omega)
  generalize hq:T/2 ^ s=q at *
  generalize hm:T % 2 ^ s=m at *
  have r4:(q:Int) % 4294967296=(q:Int):=by omega
  have r7:IntKind.u32.wrap (q:Int)=(q:Int):=IntWalk.u32_in _ (by omega)
  have St:=Lib.hid st
  have HS:=Lib.hid hS
  have HB:=Lib.hid hB
  have hb0:r<2147483648:=by omega
  clear st hS hq hm hxv hTT hB bD aG bO bR bL aG2 hB0 bD2 bO2 bR2 hmk ht0 hf0 k1 k3
  gi_wp2
  have d1:(W.setCell ⟨w.heap.size+1+1+1,0,none⟩ (.int .u64 (T:Int))).cell? ⟨w.heap.size,0,none⟩=some (.int .i64 (s:Int)):=(World.cell?_setCell_far _ _ _ _ (by simp <;> omega)).trans c1
  have d2:(W.setCell ⟨w.heap.size+1+1+1,0,none⟩ (.int .u64 (T:Int))).cell? ⟨w.heap.size+1+1,0,none⟩=some (.slice (some ⟨w.heap.size+1,0,none⟩) n n):=(World.cell?_setCell_far _ _ _ _ (by simp <;> omega)).trans c2
  have d3:(W.setCell ⟨w.heap.size+1+1+1,0,none⟩ (.int .u64 (T:Int))).cell? ⟨w.heap.size+1+1+1,0,none⟩=some (.int .u64 (T:Int)):=World.cell?_setCell_same' _ _ _ (by rw[c3];rfl)
  have d4:(W.setCell ⟨w.heap.size+1+1+1,0,none⟩ (.int .u64 (T:Int))).cell? ⟨w.heap.size+1,x.1,none⟩=some (.int .u32 (lx:Int)):=(World.cell?_setCell_far _ _ _ _ (by simp <;> omega)).trans c4
  have g3:(W.setCell ⟨w.heap.size+1+1+1,0,none⟩ (.int .u64 (T:Int))).frozen? ⟨w.heap.size+1+1+1,0,none⟩=false:=by rw[World.frozen?_setCell];exact f3
  have g4:(W.setCell ⟨w.heap.size+1+1+1,0,none⟩ (.int .u64 (T:Int))).frozen? ⟨w.heap.size+1,x.1,none⟩=false:=by rw[World.frozen?_setCell];exact f4
  generalize hW8:W.setCell ⟨w.heap.size+1+1+1,0,none⟩ (.int .u64 (T:Int))=W8 at *
  refine round_region (S:=(fun w'=>w'.cell? ⟨w.heap.size,0,none⟩=some (.int .i64 (s:Int))∧w'.cell? ⟨w.heap.size+1+1,0,none⟩=some (.slice (some ⟨w.heap.size+1,0,none⟩) n n)∧w'.cell? ⟨w.heap.size+1+1+1,0,none⟩=some (.int .u64 (T:Int)))) hmx (by kernel_rfl) (fun h=>by obtain⟨_,_,h⟩:=h;exact h) ⟨d1,d2,d3⟩ (fun hHeld=>?_)
  refine take_at 0 (some 37) (.slice (some ⟨w.heap.size+1,0,none⟩) n n) rfl rfl (by kernel_rfl) (by kernel_rfl) (by kernel_rfl) (fun _ _ _ h=>h) (Or.inl ⟨by rfl,?_⟩) (by assumption) ?_
  ·intro w hSw
   go_simp
   try with_reducible rfl
  simp only[Act.put,List.setIfInBounds_toArray,List.set_cons_zero,List.set_cons_succ]
  refine take_at 1 (some 38) (.int .i64 (x.1:Int)) rfl rfl (by kernel_rfl) (by kernel_rfl) (by kernel_rfl) (fun _ _ _ h=>h) (Or.inl ⟨by rfl,?_⟩) (by assumption) ?_
  ·intro w hSw
   go_simp
   try with_reducible rfl
  simp only[Act.put,List.setIfInBounds_toArray,List.set_cons_zero,List.set_cons_succ]
  refine take_at 2 (some 39) (.int .u64 (T:Int)) rfl rfl (by kernel_rfl) (by kernel_rfl) (by kernel_rfl) (fun _ _ _ h=>h) (Or.inl ⟨by rfl,?_⟩) (by assumption) ?_
  ·intro w hSw
   go_simp
   try with_reducible rfl
  simp only[Act.put,List.setIfInBounds_toArray,List.set_cons_zero,List.set_cons_succ]
  refine take_at 3 (some 40) (.int .i64 (s:Int)) rfl rfl (by kernel_rfl) (by kernel_rfl) (by kernel_rfl) (fun _ _ _ h=>h) (Or.inl ⟨by rfl,?_⟩) (by assumption) ?_
  ·intro w hSw
   go_simp
   try with_reducible rfl
  simp only[Act.put,List.setIfInBounds_toArray,List.set_cons_zero,List.set_cons_succ]
  refine take_at 4 (some 41) (.int .i64 (s:Int)) rfl rfl (by kernel_rfl) (by kernel_rfl) (by kernel_rfl) (fun _ _ _ h=>h) (Or.inl ⟨by rfl,?_⟩) (by assumption) ?_
  ·intro w hSw
   go_simp
   try with_reducible rfl
  simp only[Act.put,List.setIfInBounds_toArray,List.set_cons_zero,List.set_cons_succ]
  refine take_at 5 (some 42) (.int .u64 (q:Int)) rfl rfl (by kernel_rfl) (by kernel_rfl) (by kernel_rfl) (fun _ _ _ h=>h) (Or.inl ⟨by rfl,?_⟩) (by assumption) ?_
  ·intro w hSw
   go_simp
   try with_reducible rfl
  simp only[Act.put,List.setIfInBounds_toArray,List.set_cons_zero,List.set_cons_succ]
  refine take_at 6 (some 43) (.int .u32 (q:Int)) rfl rfl (by kernel_rfl) (by kernel_rfl) (by kernel_rfl) (fun _ _ _ h=>h) (Or.inl ⟨by rfl,?_⟩) (by assumption) ?_
  ·intro w hSw
   go_simp
   try with_reducible rfl
  simp only[Act.put,List.setIfInBounds_toArray,List.set_cons_zero,List.set_cons_succ]
  refine take_at 7 (some 44) (.pointer (some ⟨w.heap.size+1,x.1,none⟩)) rfl rfl (by kernel_rfl) (by kernel_rfl) (by kernel_rfl) (fun _ _ _ h=>h) (Or.inl ⟨by rfl,?_⟩) (by assumption) ?_
  ·intro w hSw
   go_simp
   try with_reducible rfl
  simp only[Act.put,List.setIfInBounds_toArray,List.set_cons_zero,List.set_cons_succ]
  refine wpAnyH_ready (rs:=[8]) (by kernel_rfl) (by simp) ?_
  refine AllReadyH.cons rfl (fun K hK=>?_) AllReadyH.nil
  go_simp
  refine hK.out _ _ ⟨(World.cell?_setCell_far _ _ _ _ (by simp <;> omega)).trans hHeld.1,(World.cell?_setCell_far _ _ _ _ (by simp <;> omega)).trans hHeld.2.1,(World.cell?_setCell_far _ _ _ _ (by simp <;> omega)).trans hHeld.2.2⟩ (fun hHeld=>?_)
  clear hK K
  try simp only[Act.put,Lw.s1,Lw.s2,Lw.s3]
  refine wpAnyH_done (by kernel_rfl) ?_ _
  clear hHeld
  gi_wp2
  have e1:(W8.setCell ⟨w.heap.size+1,x.1,none⟩ (.int .u32 (q:Int))).drew.cell? ⟨w.heap.size,0,none⟩=some (.int .i64 (s:Int)):=(World.cell?_setCell_far W8 _ _ _ (by simp <;> omega)).trans d1
  have e3:(W8.setCell ⟨w.heap.size+1,x.1,none⟩ (.int .u32 (q:Int))).drew.cell? ⟨w.heap.size+1+1+1,0,none⟩=some (.int .u64 (T:Int)):=(World.cell?_setCell_far W8 _ _ _ (by simp <;> omega)).trans d3
  have h3:(W8.setCell ⟨w.heap.size+1,x.1,none⟩ (.int .u32 (q:Int))).drew.frozen? ⟨w.heap.size+1+1+1,0,none⟩=false:=by rw[World.frozen?_drew,World.frozen?_setCell];exact g3
  clear c1 c2 c3 c4 f3 f4 d1 d2 d3 d4 g3 g4
  generalize hW9:(W8.setCell ⟨w.heap.size+1,x.1,none⟩ (.int .u32 (q:Int))).drew=W9 at *
  refine round_region (S:=fun w'=>w'.cell? ⟨w.heap.size,0,none⟩=some (.int .i64 (s:Int))) hmx (by kernel_rfl) (fun h=>by obtain⟨_,_,h⟩:=h;exact h) e1 (fun hHeld=>?_)
  refine take_at 1 (some 46) (.int .i64 (s:Int)) rfl rfl (by kernel_rfl) (by kernel_rfl) (by kernel_rfl) (fun _ _ _ h=>h) (Or.inl ⟨by rfl,?_⟩) (by assumption) ?_
  ·intro w hSw
   go_simp
   try with_reducible rfl
  simp only[Act.put,List.setIfInBounds_toArray,List.set_cons_zero,List.set_cons_succ]
  refine take_at 2 (some 47) (.int .i64 (s:Int)) rfl rfl (by kernel_rfl) (by kernel_rfl) (by kernel_rfl) (fun _ _ _ h=>h) (Or.inl ⟨by rfl,?_⟩) (by assumption) ?_
  ·intro w hSw
   go_simp
   try with_reducible rfl
  simp only[Act.put,List.setIfInBounds_toArray,List.set_cons_zero,List.set_cons_succ]
  refine take_at 3 (some 48) (.int .u64 ((2:Int) ^ s)) rfl rfl (by kernel_rfl) (by kernel_rfl) (by kernel_rfl) (fun _ _ _ h=>h) (Or.inl ⟨by rfl,?_⟩) (by assumption) ?_
  ·intro w hSw
   go_simp
   try with_reducible rfl
  simp only[Act.put,List.setIfInBounds_toArray,List.set_cons_zero,List.set_cons_succ]
  refine take_at 4 (some 49) (.int .u64 ((2:Int) ^ s-1)) rfl rfl (by kernel_rfl) (by kernel_rfl) (by kernel_rfl) (fun _ _ _ h=>h) (Or.inl ⟨by rfl,?_⟩) (by assumption) ?_
  ·intro w hSw
   go_simp
   try with_reducible rfl
  simp only[Act.put,List.setIfInBounds_toArray,List.set_cons_zero,List.set_cons_succ]
  refine wpAnyH_ready (rs:=[0]) (by kernel_rfl) (by simp) ?_
  refine AllReadyH.cons rfl (fun K hK=>?_) AllReadyH.nil
  go_simp
  refine hK.out _ _ hHeld (fun hHeld=>?_)
  clear hK K
  try simp only[Act.put,Lw.s1,Lw.s2,Lw.s3]
  refine take_at 5 (some 50) (.int .u64 (m:Int)) rfl rfl (by kernel_rfl) (by kernel_rfl) (by kernel_rfl) (fun _ _ _ h=>h) (Or.inl ⟨by rfl,?_⟩) (by assumption) ?_
  ·intro w hSw
   go_simp
   try with_reducible rfl
  simp only[Act.put,List.setIfInBounds_toArray,List.set_cons_zero,List.set_cons_succ]
  refine wpAnyH_ready (rs:=[6]) (by kernel_rfl) (by simp) ?_
  refine AllReadyH.cons rfl (fun K hK=>?_) AllReadyH.nil
  go_simp
  refine hK.out _ _ ((World.cell?_setCell_far _ _ _ _ (by simp <;> omega)).trans hHeld) (fun hHeld=>?_)
  clear hK K
  try simp only[Act.put,Lw.s1,Lw.s2,Lw.s3]
  refine wpAnyH_done (by kernel_rfl) ?_ _
  clear hHeld
  gi_wp2
  clear e1 e3 h3
  subst hW9
  subst hW8
  have ko:∀ X:World,KeepsOthers X X.drew:=fun X=>⟨Nat.le_refl _,fun _ _ h _=>h⟩
  refine⟨(((((KeepsOthers.setCell W _ _).trans (KeepsOthers.setCell _ _ _)).trans (ko _)).trans (KeepsOthers.setCell _ _ _)).trans (ko _)).from _,⟨((((Below.refl _ W).setCell (p:=⟨w.heap.size+1+1+1,0,none⟩) (by simp;omega) _).setCell (p:=⟨w.heap.size+1,x.1,none⟩) (by simp) _).drew.setCell (p:=⟨w.heap.size+1+1+1,0,none⟩) (by simp;omega) _).drew,?_⟩,⟨_,_,St.out _ ?_,?_,?_,?_⟩,(((HB.out.setCell (p:=⟨w.heap.size+1+1+1,0,none⟩) (by simp;omega) _).setCell (p:=⟨w.heap.size+1,x.1,none⟩) (by simp) _).drew.setCell (p:=⟨w.heap.size+1+1+1,0,none⟩) (by simp;omega) _).drew⟩
  ·show (World.setCell _ _ _).heap[w.heap.size+1+1+1+1]? = _
   rw[Below.heap_setCell _ _ _ _ (by simp)]
   show (World.setCell _ _ _).heap[w.heap.size+1+1+1+1]? = _
   rw[Below.heap_setCell _ _ _ _ (by simp;omega),Below.heap_setCell _ _ _ _ (by simp)]
  ·exact((((HS.out.arr.other (by simp;omega) _).set x.1 q).drew).other (by simp;omega) _).drew
  ·exact Boxed.drew' (Boxed.far (Boxed.drew' (Boxed.far (Boxed.far hbD (by omega)) (by omega))) (by omega))
  ·exact Boxed.drew' (Boxed.far (Boxed.drew' (Boxed.far (Boxed.far hbO (by omega)) (by omega))) (by omega))
  ·exact Boxed.drew' (Boxed.set _ (Boxed.drew' (Boxed.far (Boxed.set _ hbR) (by omega))))
 case done =>
  rintro D ys W hD rfl ⟨⟨L,r,hS,hbD,hbO,hbR⟩,hB⟩ hK
  have hv:=hS.v (by rw[dn_len (Nat.le_refl _)])
  rw[dn_len (Nat.le_refl _),Nat.sub_self] at hv
  have V1:=Lib.hid hv.fin.1
  have HS:=Lib.hid hS
  have HB:=Lib.hid hB
  have c2:=hbO.cell
  have c3:=hbR.cell
  have hr:=hS.r1
  clear hv hB hS hmk ht0 hf0
  gi_wp2
  refine wpIn_wide.2 ?_
  go_quiet (fail)
  gi_wp2
  refine⟨by simp, .inl ⟨_,_,rfl,run_takeDeferred (w:=W.drewN nq) hK,?_⟩⟩
  exact⟨_,results_tmp2 rfl _ _ _,_,L,rfl,HS.out.len,HS.out.lb,V1.out,(HS.out.arr.drewN nq).own (grownBy_putObj' _ D (.deferred none)) (fun r e=>by cases e;exact⟨_,hK,rfl⟩),(below_drewN HB.out nq).trans (belowK_b (w:=w) (Nat.le_refl _) (W.drewN nq) D _ _ (by simp at hD;omega) hK rfl rfl)⟩
 case stop =>
  rintro D c pre W _ _ h _
  exact h.elim
end Wd
namespace Wd
open Go.RowKit Lw

theorem bl_spec (x:Nat) (h0:x≠0) (h:x<2 ^ 64):∃ k,Lib.bitLen x=k+1∧2 ^ k≤x∧x<2 ^ (k+1):=by
 induction x using Nat.strongRecOn with
 | _ x ih =>
  rw[Lib.bitLen_half x h0 h]
  by_cases h1:x/2=0
  ·refine⟨0,?_,by omega,by omega⟩
   rw[h1];rfl
  ·obtain⟨k,e,h2,h3⟩:=ih (x/2) (by omega) h1 (by omega)
   refine⟨k+1,by rw[e];omega,by rw[Nat.pow_succ];omega,by rw[Nat.pow_succ];omega⟩
theorem lz_spec (y:Nat) (h0:0<y) (h:y<4294967296):∃ s:Nat,s≤31∧(32-(Lib.bitLen y:Int))=(s:Int)∧2147483648≤y*2 ^ s∧y*2 ^ s<4294967296:=by
 obtain⟨k,e,h1,h2⟩:=bl_spec y (by omega) (by omega)
 have hk:k<32:=by
  rcases Nat.lt_or_ge k 32 with g|g
  ·exact g
  ·have:(2:Nat) ^ 32≤2 ^ k:=Nat.pow_le_pow_right (by decide) g
   have h32:(2:Nat) ^ 32=4294967296:=rfl
   omega
 have e1:(2:Nat) ^ k*2 ^ (31-k)=2147483648:=by
  rw[← Nat.pow_add,show k+(31-k)=31 by omega]
 have hp:=Nat.two_pow_pos (31-k)
 refine⟨31-k,by omega,by rw[e];omega,?_,?_⟩
 ·rw[← e1];exact Nat.mul_le_mul_right _ h1
 ·have:y*2 ^ (31-k)<2 ^ (k+1)*2 ^ (31-k):=Nat.mul_lt_mul_of_pos_right h2 hp
  rw[Nat.pow_succ,Nat.mul_right_comm,e1] at this
  omega
theorem win_run (g n cap j k:Nat) (h:j+k≤cap) (hk:0<k) (w:World) :
  (Instr.slice 64 (.slice (some ⟨g,0,none⟩) n cap) (some (.int .i64 (j:Int))) (some (.int .i64 ((j:Int)+(k:Int)))) none).run Tryz.prog w = .ok (.slice (some ⟨g,j,none⟩) k (cap-j)) w:=by
 rw[run_slice_lh w _ (some ⟨g,0,none⟩) n cap el_us .i64 .i64 (j:Int) ((j:Int)+(k:Int)) (by omega) (by omega) (by omega),sz_us]
 have e1:((j:Int)+(k:Int)).toNat=j+k:=by omega
 have e:sliced (some ⟨g,0,none⟩) j (j+k) cap 1 = .slice (some ⟨g,j,none⟩) k (cap-j):=by
  unfold sliced
  have e2:j+k-j=k:=by omega
  have e3:(⟨g,0,none⟩:Addr).add j=⟨g,j,none⟩:=by simp[Addr.add];omega
  rw[e2,if_neg (by omega),Option.map_some,Nat.mul_one,e3]
 simp only[Result.andThen,Int.toNat_natCast,e1,e]
def DivPost (w:World) (q r:Nat) (e:Ending) (w':World):Prop :=
 ∃ aq cq ar cr,e = .returned (.tuple #[.slice aq (canon q).length cq, .slice ar (canon r).length cr])∧Lim w' aq (canon q).length cq (canon q)∧Lim w' ar (canon r).length cr (canon r) ∧
  (∀ b off,aq=some ⟨b,off,none⟩→w.heap.size≤b)∧(∀ b off,ar=some ⟨b,off,none⟩→w.heap.size≤b)∧Below w.heap.size w w'
end Wd
namespace Wd
open Go.RowKit Lw

theorem divide_lt (X Y:Nat) (A D:Option Addr) (na ca nb cb:Nat) (w:World) (hA:Lim w A na ca (canon X)) (hD:Lim w D nb cb (canon Y)) (hX:0<X) (h:X<Y) :
  Calls Tryz.prog 212 #[.slice A na ca, .slice D nb cb] w (DivPost w (X/Y) (X % Y)):=by
 have la:=hA.len
 have hp:0<na:=by rw[← la];exact(canon_lenpos X).2 hX
 have hc:=compare_walk X Y A D na ca nb cb w hA hD
 rw[cmp_lt h] at hc
 have cl:=fun w' (hb:Below w.heap.size w w')=>clone_walk _ _ _ _ w' (hA.below hb) hp
 have hl:=lb_canon X
 have hs:=hA.sm
 have e0:X/Y=0:=Nat.div_eq_of_lt h
 have e1:X % Y=X:=Nat.mod_eq_of_lt h
 have Cl:=Lib.hid cl
 have HL:=Lib.hid hl
 clear cl hl hA hD
 rw[e0,e1]
 go_enter Tryz.func212,Tryz.ntmps212
 go_wp2_with (first|(go_at_call 222;refine hc.mono ?_;rintro e w1 ⟨rfl,hb⟩;have HB:=Lib.hid hb;clear hb)|(go_at_call 221;refine(Cl.out _ HB.out).mono ?_;rintro e w2 ⟨V,rfl,hO,hb⟩;have HB2:=Lib.hid (below_then HB.out hb);have hs1:=HB.out.size;have HO:=Lib.hid hO;clear hb hO))
 obtain⟨a,cap,rfl,hL,hf⟩:=own_lim HO.out HL.out (by omega)
 exact bodyPost_ret (results_tmp2 rfl _ _ _) rfl ⟨none,0,a,cap,by rw[canon_zero];rfl,by rw[canon_zero];exact Lim.nil _,hL,fun b off e=>by(cases e),fun b off e=>by have:=hf b off e;omega,HB2.out⟩
theorem divide_one (X Y:Nat) (A D:Option Addr) (na ca cb:Nat) (w:World) (hA:Lim w A na ca (canon X)) (hD:Lim w D 1 cb (canon Y)) (h:Y≤X) :
  Calls Tryz.prog 212 #[.slice A na ca, .slice D 1 cb] w (DivPost w (X/Y) (X % Y)):=by
 have ld:=hD.len
 have hc:=compare_walk X Y A D na ca 1 cb w hA hD
 have hge:¬ cmpN X Y<0:=by
  rcases Nat.lt_or_eq_of_le h with g|g
  ·rw[cmp_gt g];omega
  ·rw[g,cmp_eq];omega
 have hge':(0:Int)≤cmpN X Y:=by omega
 generalize cmpN X Y=cc at hc hge'
 have hY0:0<Y:=(canon_lenpos Y).1 (by omega)
 obtain⟨bD,oD,rfl,hDl, -⟩:=hD.row (by omega)
 have cD:=hD.cell (k:=0) (by omega)
 have hy:(canon Y)[0]'(by omega)=Y:=by
  have e:=canon_pos (show Y≠0 by omega)
  have h1:canon (Y/4294967296) = []:=by
   have:=congrArg List.length e
   rw[ld,List.length_cons] at this
   exact List.length_eq_zero_iff.1 (by omega)
  have h2:=(canon_spec (Y/4294967296)).2.2.1.1 h1
  simp only[e,List.getElem_cons_zero]
  omega
 rw[hy] at cD
 have hYb:Y<4294967296:=by rw[← hy];exact lb_get (lb_canon Y) (by omega)
 have cD':=fun w' (hb:Below w.heap.size w w')=>(hb.cell (p:=⟨bD,oD+0,none⟩) hDl).trans cD
 simp only[Nat.add_zero] at cD'
 have sw:=fun w' (hb:Below w.heap.size w w')=>short_walk (canon X) A na ca Y w' (hA.below hb) hY0 hYb
 rw[val_canon] at sw
 have hm:X % Y<4294967296:=Nat.lt_trans (Nat.mod_lt _ hY0) hYb
 have lr:Lb [X % Y]:=fun x hx=>by rw[List.mem_singleton.1 hx];exact hm
 have vr:val [X % Y]=X % Y:=by simp[val]
 have tr:=fun w':World=>trim_walk [X % Y] (some ⟨w'.heap.size,0,none⟩) 1 1 (w'.alloc (.cells (us [X % Y]).toArray 170)) (Lim.new w' [X % Y] 170 1 lr (by simp) (by simp))
 rw[vr] at tr
 have tl:=fun w':World=>(Lim.new w' [X % Y] 170 1 lr (by simp) (by simp)).trim
 rw[vr] at tl
 have Tl:=Lib.hid tl
 have Sw:=Lib.hid sw
 have CD:=Lib.hid cD'
 clear sw tl cD' cD lr vr hA hD hy
 generalize X/Y=Q at *
 generalize X % Y=R at *
 have tr2:∀ w':World,Calls Tryz.prog 191 #[.slice (some ⟨w'.heap.size,0,none⟩) 1 1] (w'.alloc (.cells #[.int .u32 (R:Int)] 170)) fun e w2=>e = .returned (.slice (some ⟨w'.heap.size,0,none⟩) (canon R).length 1)∧(w'.alloc (.cells #[.int .u32 (R:Int)] 170))=w2:=tr
 clear tr
 go_enter Tryz.func212,Tryz.ntmps212
 go_wp2_with (first|(go_at_call 222;refine hc.mono ?_;rintro e w1 ⟨rfl,hb⟩;have HB:=Lib.hid hb;have cd:=CD.out _ hb;clear hb)|(go_at_call 229;refine(Sw.out _ HB.out).mono ?_;rintro e w2 ⟨rfl,hL,hb⟩;have HB2:=Lib.hid (below_then HB.out hb);have hs1:=HB.out.size;have HL:=Lib.hid hL;clear hb hL cd)|(go_at_call 191;refine(tr2 _).mono ?_;rintro e w3 ⟨rfl,rfl⟩))
 have b3:=(Below.refl _ w2).alloc (Nat.le_refl _) (.cells #[.int .u32 (R:Int)] 170)
 have hs2:=HB2.out.size
 refine bodyPost_ret (results_tmp2 rfl _ _ _) rfl ⟨_,_,_,_,rfl,HL.out.below b3,Tl.out w2,fun b off e=>by cases e;omega,fun b off e=>by cases e;omega,below_then HB2.out b3⟩
end Wd
namespace Wd
open Go.RowKit Lw

theorem Arr.grown {w w':World} {g:Nat} {L:List Nat} {row:Option Nat} (h:Arr w g L) (hg:w.grownBy w' row) (hne:some g≠row):Arr w' g L:=by
 unfold Arr at h ⊢
 exact(hg.block g (lt_of_block h) hne).trans h
theorem take_run1 (a:Option Addr) (n cap k:Nat) (h:k+1≤cap) (w:World) :
  (Instr.slice 64 (.slice a n cap) none (some (.int .i64 ((k:Int)+1))) none).run Tryz.prog w = .ok (.slice a (k+1) cap) w:=by
 have:=take_run a n cap (k+1) h w
 rwa [Int.natCast_add] at this
theorem divide_more (X Y:Nat) (A D:Option Addr) (na ca pb cb:Nat) (w:World) (hA:Lim w A na ca (canon X)) (hD:Lim w D (pb+1) cb (canon Y)) (h:Y≤X) (hpb:0<pb) (hn:na+10≤1000000) :
  Calls Tryz.prog 212 #[.slice A na ca, .slice D (pb+1) cb] w (DivPost w (X/Y) (X % Y)):=by
 have la:=hA.len
 have ld:=hD.len
 have hY0:0<Y:=(canon_lenpos Y).1 (by omega)
 have hlen:pb+1≤na:=by
  rw[← la,← ld]
  rcases Nat.lt_or_ge (canon X).length (canon Y).length with g|g
  ·have:=canon_lt_of_len g;omega
  ·exact g
 have hc:=compare_walk X Y A D na ca (pb+1) cb w hA hD
 have hge:¬ cmpN X Y<0:=by
  rcases Nat.lt_or_eq_of_le h with g|g
  ·rw[cmp_gt g];omega
  ·rw[g,cmp_eq];omega
 have hge':(0:Int)≤cmpN X Y:=by omega
 generalize cmpN X Y=cc at hc hge'
 obtain⟨bD,oD,rfl,hDl, -⟩:=hD.row (by omega)
 have cD:=hD.cell (k:=pb) (by omega)
 have yb:=lb_get (lb_canon Y) (k:=pb) (by omega)
 have y0:(canon Y)[pb]'(by omega)≠0:=by
  have:=canon_last ld (by omega)
  simpa using this
 obtain⟨s,hs,e1,t1,t2⟩:=lz_spec _ (Nat.pos_of_ne_zero y0) yb
 have lz:=fun w=>Tryz.bits_LeadingZeros32 ((canon Y)[pb]'(by omega):Int) w (by omega) (by omega)
 rw[show ((canon Y)[pb]'(by omega):Int).toNat=(canon Y)[pb]'(by omega) from Int.toNat_natCast _,e1] at lz
 have top:∀ h:pb+1-1<(canon Y).length,2147483648≤(canon Y)[pb+1-1]*2 ^ s∧(canon Y)[pb+1-1]*2 ^ s<4294967296:=fun _=>⟨t1,t2⟩
 have Top:=Lib.hid top
 clear top t1 t2 e1
 generalize (canon Y)[pb]'(by omega)=y at *
 have cD':=Lib.hid (fun w' (hb:Below w.heap.size w w')=>(hb.cell (p:=⟨bD,oD+pb,none⟩) hDl).trans cD)
 have LA:=Lib.hid (fun w' (hb:Below w.heap.size w w')=>left_walk (canon X) A na ca s w' (hA.below hb) (by omega) (by omega))
 have LD:=Lib.hid (fun w' (hb:Below w.heap.size w w')=>left_walk (canon Y) (some ⟨bD,oD,none⟩) (pb+1) cb s w' (hD.below hb) (by omega) (by omega))
 have k1:IntKind.i64.wrap ((pb:Int)+1-1)=(pb:Int):=by rw[IntWalk.i64_in _ (by omega)];omega
 clear hA hD cD
 go_enter Tryz.func212,Tryz.ntmps212
 go_wp2_with (first|(go_at_call 222;refine hc.mono ?_;rintro e w1 ⟨rfl,hb⟩;have hB:=hb;have cd:=cD'.out _ hb;clear hb)|(go_at_call 230;refine(lz _).mono ?_;rintro e w' ⟨rfl,rfl⟩))
 go_region_held3 (fun w2=>Below w.heap.size w w2) (first|exact hB.drew|exact hhB|assumption) (first|(go_at_call 231;with_reducible refine(LD.out _ (by assumption)).mono ?_;rintro e wv ⟨V,Lv,rfl,lv1,lv2,lv3,lv4,hbv⟩;obtain⟨gv,capv,hV,cv1,cv2,Rv⟩:=own_row lv4 (by omega);rw[lv1] at hV cv1;subst hV;have hsl:=take_run1 (some ⟨gv,0,none⟩) (pb+1+1) capv pb (by omega);have hhB:=below_then (by assumption) hbv;have HBv:=Lib.hid hbv;have RV:=Lib.hid Rv;have LV:=Lib.hid lv3;clear hbv lv3 lv4 Rv)|(go_at_call 231;with_reducible refine(LA.out _ (by assumption)).mono ?_;rintro e wu ⟨V,Lu,rfl,lu1,lu2,lu3,lu4,hbu⟩;obtain⟨gu,capu,hV,cu1,cu2,Ru⟩:=own_row lu4 (by omega);rw[lu1] at hV cu1;subst hV;have hgu:w.heap.size≤gu:=Nat.le_trans (Below.size (B:=w.heap.size) (w:=w) (by assumption)) cu2;have hhB:=below_then (by assumption) hbu;have HBu:=Lib.hid hbu;have RU:=Lib.hid Ru;have LU:=Lib.hid lu3;clear hbu lu3 lu4 Ru))
 all_goals
  have hne:gu≠gv:=by have h1:=RV.out.lt;have h2:=RU.out.lt;omega
  first|(have rv:=RV.out.below HBu.out)|(have rv:=RV.out)
  first|(have ru:=RU.out.below HBv.out)|(have ru:=RU.out)
  have nm:=Norm.of (lb_canon Y) ld (by omega) hs lv1 lv2 LV.out Top.out
  have hz:=QIn.zero (u:=Lu) (V:=val (Lv.take (pb+1))) (n:=pb+1) (m:=na-pb) (by omega) lu2 (nm.start (lb_canon X) LU.out (by omega))
  have hvL:=rv.lim lv2 0 (pb+1) (cap:=capv) (by omega) (by omega) (by omega)
  simp only[List.drop_zero] at hvL
  have HZ:=Lib.hid hz
  have HV:=Lib.hid hvL
  have NM:=Lib.hid nm
  have HB:=Lib.hid hhB
  have RU2:=Lib.hid ru
  clear RV RU rv ru nm hz hvL LV lv2 HBv HBu hB LA LD lz cD' hc hhB Top
  obtain⟨m,rfl⟩:∃ m,na=pb+m:=⟨na-pb,by omega⟩
  rw[Nat.add_sub_cancel_left] at HZ
  have hmk:∀ w,(Instr.makeSlice 64 (.int .i64 ((pb:Int)+(m:Int)+1-((pb:Int)+1))) (.int .i64 ((pb:Int)+(m:Int)+1-((pb:Int)+1)))).run Tryz.prog w = .ok (.slice (some ⟨w.heap.size,0,none⟩) m m) (w.alloc (.cells (nu m) 170)):=fun w=>by
   have:=make_nu m (by omega) w
   rwa [show (m:Int)=(pb:Int)+(m:Int)+1-((pb:Int)+1) by omega] at this
  rename World=>wX
  have vX:=LU.out
  have vV:=NM.out.e
  rw[val_canon] at vX vV
  have fin1:∀ a b:Nat,a=val Lu/val (Lv.take (pb+1))→b=val Lu % val (Lv.take (pb+1))→a=X/Y∧b/2 ^ s=X % Y:=fun a b e1 e2=>by
   obtain⟨q1,q2⟩:=shift_quo X Y s
   rw[e1,e2,vX,vV,q1,q2]
   exact⟨rfl,Nat.mul_div_cancel _ (Nat.two_pow_pos s)⟩
  have Fin1:=Lib.hid fin1
  have hvlt:=NM.out.lt
  have hv0:=NM.out.pos
  have hvy:∀ h:pb<(Lv.take (pb+1)).length,0<(Lv.take (pb+1))[pb]:=fun h=>by
   have:=NM.out.top (by simpa using h)
   simp only[Nat.add_sub_cancel] at this
   omega
  have Hvy:=Lib.hid hvy
  have ruX:=RU2.out.lt
  have hgvX:gv<wX.heap.size:=by
   obtain⟨b,off,e,hb,_⟩:=HV.out.row (by omega)
   cases e
   exact hb
  clear LU vX vV fin1 NM hvy
  generalize hvv:Lv.take (pb+1)=v at *
  go_wp2
  have b1:=(Below.refl _ wX).alloc (Nat.le_refl _) (.cells (nu m) 170)
  have st:∃ (t:Nat) (U Q:List Nat),t≤m∧Value.int .i64 ((m:Int)-1) = .int .i64 ((t:Int)-1)∧QIn (val Lu) (val v) U Q (pb+1) m t∧Row (wX.alloc (.cells (nu m) 170)) gu U∧Arr (wX.alloc (.cells (nu m) 170)) wX.heap.size Q∧Lim (wX.alloc (.cells (nu m) 170)) (some ⟨gv,0,none⟩) (pb+1) capv v∧Below w.heap.size w (wX.alloc (.cells (nu m) 170)) :=
   ⟨m,Lu,_,Nat.le_refl _,rfl,HZ.out,RU2.out.below b1,Arr.nu wX m,HV.out.below b1,below_then HB.out b1⟩
  have hXs:=HB.out.size
  clear HZ RU2 HV b1 HB hmk
  go_loopw [12] (fun i wr=>∃ (t:Nat) (U Q:List Nat),t≤m∧i = .int .i64 ((t:Int)-1)∧QIn (val Lu) (val v) U Q (pb+1) m t∧Row wr gu U∧Arr wr wX.heap.size Q∧Lim wr (some ⟨gv,0,none⟩) (pb+1) capv v∧Below w.heap.size w wr) (fun i _=>(intOf i+1).toNat)
  case atStart=>exact st
  case round =>
   clear st
   obtain⟨t,U,Q,ht,rfl,hQ,hR,hA,hL,hB⟩:=hrel
   have lU:=hQ.lu
   have lQ:=hQ.lq
   cases t with
   | succ p =>
    obtain⟨h1,h2,h3,h4⟩:=hQ.high (by omega) hvlt
    have hw:∀ w,(Instr.slice 64 (.slice (some ⟨gu,0,none⟩) (pb+m+1) capu) (some (.int .i64 (p:Int))) (some (.int .i64 ((p:Int)+((pb:Int)+1)+1))) none).run Tryz.prog w = .ok (.slice (some ⟨gu,p,none⟩) (pb+1+1) (capu-p)) w:=fun w=>by
     have:=win_run gu (pb+m+1) capu p (pb+1+1) (by omega) (by omega) w
     rwa [show (p:Int)+((pb+1+1:Nat):Int)=(p:Int)+((pb:Int)+1)+1 by omega] at this
    have sw:=Lib.hid (step_walk U v gu p (capu-p) pb capv (some ⟨gv,0,none⟩) wr hR hQ.bu (by omega) (by omega) (by omega) hL (fun b off e=>by cases e;omega) Hvy.out h4)
    have e1:(((p+1:Nat)):Int)-1=(p:Int):=by omega
    have e2:IntKind.i64.wrap ((p:Int)-1)=(p:Int)-1:=IntWalk.i64_in _ (by omega)
    have k2:(0:Int)≤(p:Int):=by omega
    have k3:(p:Int)<(m:Int):=by omega
    have HQ:=Lib.hid hQ
    have HA:=Lib.hid hA
    have HL:=Lib.hid hL
    have HB:=Lib.hid hB
    clear hQ hR hA hL hB h2 h3 h4
    rw[e1]
    go_wp2_with (go_at_call 232;refine sw.out.mono ?_;rintro e w3 ⟨rfl,⟨r,hr1,hr2,hr3,hr4⟩,hgr⟩;have aq3:=HA.out.grown hgr (by simp;omega);obtain⟨lx,cq⟩:∃ lx:Nat,w3.cell? ⟨wX.heap.size,p,none⟩=some (.int .u32 (lx:Int)):=⟨_,aq3.cell (by omega)⟩;have fq:=aq3.free p;have HA3:=Lib.hid aq3;have HR3:=Lib.hid hr4;have HG:=Lib.hid hgr;have HB3:=Lib.hid (HB.out.grown hgr HB.out.size (fun k e=>by cases e;omega));have HV3:=Lib.hid hr3;clear aq3 hr4 hgr hr3)
    go_roundw
    case rel=>exact⟨p,_,_,by omega,rfl,HQ.out.step (by omega) hvlt hv0 hr1 hr2 HV3.out,HR3.out.other (by simp;omega) _,HA3.out.set p _,(HL.out.grown HG.out (fun b off e=>by cases e;omega)).grown (grownBy_set2 _ _ _ _) (fun b off e=>by cases e;omega),HB3.out.setCell (p:=⟨wX.heap.size,p,none⟩) (by simp;omega) _⟩
    case measure=>simp[intOf]
   | zero =>
    obtain⟨f1,f2⟩:=hQ.fin
    obtain⟨g1,g2⟩:=Fin1.out _ _ f1 f2
    have limU:=hR.lim0 hQ.bu (cap:=capu) (by omega) (by omega)
    rw[lU,show pb+1+m=pb+m+1 by omega] at limU
    have tu:=trim_walk U (some ⟨gu,0,none⟩) (pb+m+1) capu wr limU
    have rw1:=Lib.hid (right_walk (canon (val U)) (some ⟨gu,0,none⟩) _ capu s wr limU.trim hs)
    have limQ:=hA.lim hQ.bq (cap:=m) (by omega) (by omega)
    rw[lQ] at limQ
    have tq:=Lib.hid (fun w' (hb:Below wr.heap.size wr w')=>trim_walk Q (some ⟨wX.heap.size,0,none⟩) m m w' (limQ.below hb))
    have tl:=Lib.hid (fun w' (hb:Below wr.heap.size wr w')=>(limQ.below hb).trim)
    have HB:=Lib.hid hB
    have G1:=Lib.hid g1
    have G2:=Lib.hid g2
    have HQ:=Lib.hid hQ
    clear hQ hR hA hL hB limU limQ f1 f2 g1 g2
    have hkb:(canon (val U)).length≤1000000:=by have:=canon_le U HQ.out.bu;omega
    generalize hku:(canon (val U)).length=ku at *
    go_wp2_with (first|(go_at_call 233;refine rw1.out.mono ?_;rintro e w3 ⟨bb,L,rfl,l1,l2,l3,l4,hb⟩;have HL3:=Lib.hid l3;have HA3:=Lib.hid l4;have HB3:=Lib.hid hb;clear l3 l4 hb)|(go_at_call 191;first|(with_reducible refine tu.mono ?_;rintro e w' ⟨rfl,rfl⟩;clear tu)|(with_reducible refine(tq.out _ HB3.out).mono ?_;rintro e w' ⟨rfl,rfl⟩)|(have limR:=HA3.out.lim l2 (cap:=ku) (by omega) (by omega);rw[l1] at limR;with_reducible refine(trim_walk L (some ⟨wr.heap.size+1,0,none⟩) ku ku _ limR).mono ?_;rintro e w' ⟨rfl,rfl⟩)))
    have hvL:val L=X % Y:=by rw[HL3.out,val_canon];exact G2.out
    have hws:=HB.out.size
    rw[← G1.out,← hvL]
    exact bodyPost_ret (results_tmp2 rfl _ _ _) rfl ⟨_,_,_,_,rfl,tl.out _ HB3.out,limR.trim,fun b off e=>by cases e;omega,fun b off e=>by cases e;omega,below_then HB.out HB3.out⟩
end Wd
namespace Wd
open Go.RowKit Lw

theorem divide_walk (X Y:Nat) (A D:Option Addr) (na ca nb cb:Nat) (w:World) (hA:Lim w A na ca (canon X)) (hD:Lim w D nb cb (canon Y)) (hX:0<X) (hY:0<Y) (hn:na+10≤1000000) :
  Calls Tryz.prog 212 #[.slice A na ca, .slice D nb cb] w (DivPost w (X/Y) (X % Y)):=by
 rcases Nat.lt_or_ge X Y with h|h
 ·exact divide_lt X Y A D na ca nb cb w hA hD hX h
 ·have hb:0<nb:=by rw[← hD.len];exact(canon_lenpos Y).2 hY
  obtain⟨pb,rfl⟩:∃ pb,nb=pb+1:=⟨nb-1,by omega⟩
  rcases Nat.eq_zero_or_pos pb with rfl|hp
  ·exact divide_one X Y A D na ca cb w hA hD h
  ·exact divide_more X Y A D na ca pb cb w hA hD h hp hn
end Wd
namespace Wd
open Go.RowKit Lw

theorem canon_mono {A B:Nat} (h:A≤B):(canon A).length≤(canon B).length:=by
 rcases Nat.lt_or_ge (canon B).length (canon A).length with g|g
 ·have:=canon_lt_of_len g;omega
 ·exact g
end Wd
end Go.Proofs.YtdnogmanbdgadaaGreatDoor
