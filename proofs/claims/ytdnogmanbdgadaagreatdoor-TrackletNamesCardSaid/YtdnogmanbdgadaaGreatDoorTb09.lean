/-
  Lemmas and walks, texts joined: TKNum, TKRul, TKPl2, TKNt.
-/
import Derived.Shelf.Spec.BitsCarry
import Derived.Deep.RegionHeld3
import Derived.Laws.AppendOwnNone
import Derived.Test.YtdnogmanbdgadaaGreatDoorTb04
import Derived.Test.YtdnogmanbdgadaaGreatDoorTb08
import Derived.Test.YtdnogmanbdgadaaGreatDoorTb07
set_option linter.unusedSimpArgs false
set_option linter.unusedVariables false
set_option maxRecDepth 100000
set_option maxHeartbeats 40000000
namespace Go.Proofs.YtdnogmanbdgadaaGreatDoor
namespace Tw
open Go.RowKit Lw Tk

abbrev sgC (s:Bool) (m:Nat):List Value:=[.bool s, .int .u64 ((m:Int)/18446744073709551616), .int .u64 ((m:Int) % 18446744073709551616)]
abbrev sgV (s:Bool) (m:Nat):Value:=.agg (sgC s m).toArray
theorem infoSg:(Tryz.prog.info? 116).map (·.size)=some 3:=by kernel_rfl
theorem run_add (x y c:Nat) (hc:c≤1) (w:World):(callFunc 99 #[.int .u64 x, .int .u64 y, .int .u64 c]).run Tryz.prog w =
   .ok (.value (.tuple #[.int .u64 (((x+y+c) % 18446744073709551616:Nat):Int), .int .u64 (((x+y+c)/18446744073709551616:Nat):Int)])) w:=by
 rw[run_callFunc_extern Tryz.func99 (by kernel_rfl) (by kernel_rfl) (by kernel_rfl) (e:=add64Entry) (by kernel_rfl),run_add64 x y c (by omega) (by omega) (by omega) (by omega)]
 simp only[Result.andThen]
 congr 5 <;> omega
theorem run_sub (x y b:Nat) (hb:b≤1) (w:World):(callFunc 100 #[.int .u64 x, .int .u64 y, .int .u64 b]).run Tryz.prog w =
   .ok (.value (.tuple #[.int .u64 (((x+18446744073709551616-y-b) % 18446744073709551616:Nat):Int), .int .u64 ((if x<y+b then 1 else 0:Nat):Int)])) w:=by
 rw[run_callFunc_extern Tryz.func100 (by kernel_rfl) (by kernel_rfl) (by kernel_rfl) (e:=sub64Entry) (by kernel_rfl),run_sub64 x y b hb]
 rfl
theorem max_abs (a:Int):max a (-a)=(a.natAbs:Int):=by omega
theorem mag_lt {a b:Int} (ha:a.natAbs<9223372036854775808) (hb:b.natAbs<9223372036854775808):mag a b<85070591730234615865843651857942052864:=by
 unfold mag
 rcases Nat.eq_zero_or_pos b.natAbs with h|h
 ·rw[h];omega
 ·have h1:a.natAbs*b.natAbs<9223372036854775808*b.natAbs:=Nat.mul_lt_mul_of_pos_right ha h
  have h2:9223372036854775808*b.natAbs≤9223372036854775808*9223372036854775808:=Nat.mul_le_mul_left _ (by omega)
  omega
theorem product_any (a b:Int) (w:World) (ha:a.natAbs<9223372036854775808) (hb:b.natAbs<9223372036854775808) :
  Calls Tryz.prog 64 #[.int .i64 a, .int .i64 b] w fun e w'=>e = .returned (sgV (sgn a b) (mag a b))∧Below w.heap.size w w':=by
 have M:=fun w'=>Tryz.bits_Mul64 a.natAbs b.natAbs (by omega) (by omega) w'
 have hB:=(Below.refl w.heap.size w).alloc (Nat.le_refl _) (.cells (sgC (sgn a b) (mag a b)).toArray 116)
 have hR:=rangeAt_new w (sgC (sgn a b) (mag a b)) 116
 have HB:=Lib.hid hB
 have HR:=Lib.hid hR
 have em:a.natAbs*b.natAbs=mag a b:=rfl
 rw[em] at M
 have es:Hid ((!decide (a<0)==decide (b<0))=sgn a b):=Lib.hid rfl
 generalize mag a b=m at *
 generalize sgn a b=s at *
 clear hB hR em
 go_enter Tryz.func64,Tryz.ntmps64
 go_wp2_with fail
 rw[max_abs,max_abs]
 refine(M _).mono ?_
 rintro e w1 ⟨rfl,rfl⟩
 go_wp2_with fail
 rw[es.out]
 exact bodyPost_ret (ret_cell Tryz.results64 _ _ w.heap.size (sgC s m) _ rfl HR.out Tryz.underlying116 rfl infoSg) rfl ⟨rfl,HB.out⟩
theorem bool_ret {a b:Bool} (h:a=b):Ending.returned (.bool a) = .returned (.bool b):=by rw[h]
theorem split_le (m n:Nat):(m/18446744073709551616<n/18446744073709551616∨(m/18446744073709551616=n/18446744073709551616∧m % 18446744073709551616≤n % 18446744073709551616))↔m≤n:=by
 omega
theorem atmost_any (s t:Bool) (m n:Nat) (w:World) :
  Calls Tryz.prog 66 #[sgV s m,sgV t n] w fun e w'=>e = .returned (.bool (decide (m≤n)))∧Below w.heap.size w w':=by
 have hB:=((Below.refl w.heap.size w).alloc (Nat.le_refl _) (.cells (sgC s m).toArray 116)).alloc (by simp) (.cells (sgC t n).toArray 116)
 have HB:=Lib.hid hB
 have SL:=Lib.hid (split_le m n)
 clear hB
 go_enter Tryz.func66,Tryz.ntmps66
 go_wp2_with fail
 all_goals refine bodyPost_ret (results_tmp rfl _ _ _) rfl ⟨?_,HB.out⟩
 all_goals first|exact bool_ret (decide_eq_decide.2 (by omega))|exact bool_ret (decide_eq_true (by omega)).symm
theorem tup {a b c d:Int} (w:World) (h1:a=c) (h2:b=d):Result.ok (Next.value (.tuple #[.int .u64 a, .int .u64 b])) w=Result.ok (Next.value (.tuple #[.int .u64 c, .int .u64 d])) w:=by rw[h1,h2]
theorem add_lo (m n:Nat) (w:World):(callFunc 99 #[.int .u64 ((m:Int) % 18446744073709551616), .int .u64 ((n:Int) % 18446744073709551616), .int .u64 0]).run Tryz.prog w =
  .ok (.value (.tuple #[.int .u64 (((m:Int)+(n:Int)) % 18446744073709551616), .int .u64 (((m % 18446744073709551616+n % 18446744073709551616)/18446744073709551616:Nat):Int)])) w:=by
 have h:=run_add (m % 18446744073709551616) (n % 18446744073709551616) 0 (by omega) w
 rw[Int.natCast_emod,Int.natCast_emod] at h
 rw[show ((0:Nat):Int)=0 from rfl] at h
 exact h.trans (tup w (by omega) (by omega))
theorem add_hi (m n:Nat) (h1:m<85070591730234615865843651857942052864) (h2:n<85070591730234615865843651857942052864) (w:World):(callFunc 99 #[.int .u64 ((m:Int)/18446744073709551616), .int .u64 ((n:Int)/18446744073709551616), .int .u64 (((m % 18446744073709551616+n % 18446744073709551616)/18446744073709551616:Nat):Int)]).run Tryz.prog w =
  .ok (.value (.tuple #[.int .u64 (((m:Int)+(n:Int))/18446744073709551616), .int .u64 0])) w:=by
 have h:=run_add (m/18446744073709551616) (n/18446744073709551616) ((m % 18446744073709551616+n % 18446744073709551616)/18446744073709551616) (by omega) w
 rw[show (((m/18446744073709551616:Nat)):Int)=(m:Int)/18446744073709551616 by omega,show (((n/18446744073709551616:Nat)):Int)=(n:Int)/18446744073709551616 by omega] at h
 exact h.trans (tup w (by omega) (by omega))
theorem sub_lo (m n:Nat) (w:World):(callFunc 100 #[.int .u64 ((m:Int) % 18446744073709551616), .int .u64 ((n:Int) % 18446744073709551616), .int .u64 0]).run Tryz.prog w =
  .ok (.value (.tuple #[.int .u64 (((m:Int)-(n:Int)) % 18446744073709551616), .int .u64 ((if m % 18446744073709551616<n % 18446744073709551616 then 1 else 0:Nat):Int)])) w:=by
 have h:=run_sub (m % 18446744073709551616) (n % 18446744073709551616) 0 (by omega) w
 rw[Int.natCast_emod,Int.natCast_emod] at h
 rw[show ((0:Nat):Int)=0 from rfl] at h
 exact h.trans (tup w (by omega) (by rfl))
theorem sub_hi (m n:Nat) (h1:n≤m) (h2:m<85070591730234615865843651857942052864) (w:World):(callFunc 100 #[.int .u64 ((m:Int)/18446744073709551616), .int .u64 ((n:Int)/18446744073709551616), .int .u64 ((if m % 18446744073709551616<n % 18446744073709551616 then 1 else 0:Nat):Int)]).run Tryz.prog w =
  .ok (.value (.tuple #[.int .u64 (((m:Int)-(n:Int))/18446744073709551616), .int .u64 0])) w:=by
 have h:=run_sub (m/18446744073709551616) (n/18446744073709551616) (if m % 18446744073709551616<n % 18446744073709551616 then 1 else 0) (by split <;> omega) w
 rw[show (((m/18446744073709551616:Nat)):Int)=(m:Int)/18446744073709551616 by omega,show (((n/18446744073709551616:Nat)):Int)=(n:Int)/18446744073709551616 by omega] at h
 exact h.trans (tup w (by split <;> omega) (by split <;> (try split) <;> omega))
theorem sub_both (m n:Nat) (h1:n≤m) (h2:m<85070591730234615865843651857942052864):∃ c:Int,
  (∀ w,(callFunc 100 #[.int .u64 ((m:Int) % 18446744073709551616), .int .u64 ((n:Int) % 18446744073709551616), .int .u64 0]).run Tryz.prog w = .ok (.value (.tuple #[.int .u64 (((m:Int)-(n:Int)) % 18446744073709551616), .int .u64 c])) w) ∧
  ∀ w,(callFunc 100 #[.int .u64 ((m:Int)/18446744073709551616), .int .u64 ((n:Int)/18446744073709551616), .int .u64 c]).run Tryz.prog w = .ok (.value (.tuple #[.int .u64 (((m:Int)-(n:Int))/18446744073709551616), .int .u64 0])) w :=
 ⟨_,sub_lo m n,sub_hi m n h1 h2⟩
theorem add_both (m n:Nat) (h1:m<85070591730234615865843651857942052864) (h2:n<85070591730234615865843651857942052864):∃ c:Int,
  (∀ w,(callFunc 99 #[.int .u64 ((m:Int) % 18446744073709551616), .int .u64 ((n:Int) % 18446744073709551616), .int .u64 0]).run Tryz.prog w = .ok (.value (.tuple #[.int .u64 (((m:Int)+(n:Int)) % 18446744073709551616), .int .u64 c])) w) ∧
  ∀ w,(callFunc 99 #[.int .u64 ((m:Int)/18446744073709551616), .int .u64 ((n:Int)/18446744073709551616), .int .u64 c]).run Tryz.prog w = .ok (.value (.tuple #[.int .u64 (((m:Int)+(n:Int))/18446744073709551616), .int .u64 0])) w :=
 ⟨_,add_lo m n,add_hi m n h1 h2⟩
theorem minus_any (s t:Bool) (m n:Nat) (w:World) (h1:m<85070591730234615865843651857942052864) (h2:n<85070591730234615865843651857942052864) :
  Calls Tryz.prog 65 #[sgV s m,sgV t n] w fun e w'=>e = .returned (sgV false (minusA s m t n))∧Below w.heap.size w w':=by
 by_cases hst:s=t
 ·subst hst
  have F0:=(((Fr.start w).alloc (sgC s m) 116).alloc (sgC s n) 116).alloc [.bool false, .int .u64 0, .int .u64 0] 116
  simp only[World.size_alloc] at F0
  have AM:=fun w'=>atmost_any s s n m w'
  rcases Nat.lt_or_ge m n with hc|hc
  ·have hv:minusA s m s n=n-m:=by unfold minusA;rw[if_neg (by simp),if_neg (by omega)]
   obtain⟨c,SL,SH⟩:=sub_both n m (Nat.le_of_lt hc) h2
   have ev:Hid ((n:Int)-(m:Int)=((minusA s m s n:Nat):Int)):=Lib.hid (by rw[hv];omega)
   have dn:decide (n≤m)=false:=decide_eq_false (by omega)
   rw[dn] at AM
   clear hv dn hc h1 h2
   generalize minusA s m s n=r at *
   have F0:=Lib.hid F0
   go_enter Tryz.func65,Tryz.ntmps65
   go_wp2_with fail
   refine(AM _).mono ?_
   rintro e w2 ⟨rfl,hb⟩
   have F2:=F0.out.call hb
   have c20:=F2.cell 2 0 rfl rfl
   have f20:=F2.fz 2 0 rfl rfl
   have c21:=F2.cell 2 1 rfl rfl
   have f21:=F2.fz 2 1 rfl rfl
   have c22:=F2.cell 2 2 rfl rfl
   have f22:=F2.fz 2 2 rfl rfl
   have c10:=F2.cell 1 0 rfl rfl
   have f10:=F2.fz 1 0 rfl rfl
   have c11:=F2.cell 1 1 rfl rfl
   have f11:=F2.fz 1 1 rfl rfl
   have c12:=F2.cell 1 2 rfl rfl
   have f12:=F2.fz 1 2 rfl rfl
   have c00:=F2.cell 0 0 rfl rfl
   have f00:=F2.fz 0 0 rfl rfl
   have c01:=F2.cell 0 1 rfl rfl
   have f01:=F2.fz 0 1 rfl rfl
   have c02:=F2.cell 0 2 rfl rfl
   have f02:=F2.fz 0 2 rfl rfl
   have F2:=Lib.hid F2
   clear hb AM F0
   go_wp2_with (first|simp only[SL]|simp only[SH]|fail)
   rw[ev.out]
   have FF:=((F2.out.put 2 rfl (sgC s n) rfl).put 1 rfl (sgC s m) rfl).put 0 rfl (sgC false r) rfl
   exact bodyPost_ret (ret_cell Tryz.results65 _ _ (w.heap.size+1+1) (sgC false r) _ rfl (FF.get 0 rfl) Tryz.underlying116 rfl infoSg) rfl ⟨rfl,FF.below⟩
  ·have hv:minusA s m s n=m-n:=by unfold minusA;rw[if_neg (by simp),if_pos hc]
   obtain⟨c,SL,SH⟩:=sub_both m n hc h1
   have ev:Hid ((m:Int)-(n:Int)=((minusA s m s n:Nat):Int)):=Lib.hid (by rw[hv];omega)
   have dn:decide (n≤m)=true:=decide_eq_true hc
   rw[dn] at AM
   clear hv dn hc h1 h2
   generalize minusA s m s n=r at *
   have F0:=Lib.hid F0
   go_enter Tryz.func65,Tryz.ntmps65
   go_wp2_with fail
   refine(AM _).mono ?_
   rintro e w2 ⟨rfl,hb⟩
   have F2:=F0.out.call hb
   have c20:=F2.cell 2 0 rfl rfl
   have f20:=F2.fz 2 0 rfl rfl
   have c21:=F2.cell 2 1 rfl rfl
   have f21:=F2.fz 2 1 rfl rfl
   have c22:=F2.cell 2 2 rfl rfl
   have f22:=F2.fz 2 2 rfl rfl
   have c10:=F2.cell 1 0 rfl rfl
   have f10:=F2.fz 1 0 rfl rfl
   have c11:=F2.cell 1 1 rfl rfl
   have f11:=F2.fz 1 1 rfl rfl
   have c12:=F2.cell 1 2 rfl rfl
   have f12:=F2.fz 1 2 rfl rfl
   have c00:=F2.cell 0 0 rfl rfl
   have f00:=F2.fz 0 0 rfl rfl
   have c01:=F2.cell 0 1 rfl rfl
   have f01:=F2.fz 0 1 rfl rfl
   have c02:=F2.cell 0 2 rfl rfl
   have f02:=F2.fz 0 2 rfl rfl
   have F2:=Lib.hid F2
   clear hb AM F0
   go_wp2_with (first|simp only[SL]|simp only[SH]|fail)
   rw[ev.out]
   have FF:=F2.out.put 0 rfl (sgC false r) rfl
   exact bodyPost_ret (ret_cell Tryz.results65 _ _ (w.heap.size+1+1) (sgC false r) _ rfl (FF.get 0 rfl) Tryz.underlying116 rfl infoSg) rfl ⟨rfl,FF.below⟩
 ·have hv:minusA s m t n=m+n:=by unfold minusA;rw[if_pos hst]
  have F0:=(((Fr.start w).alloc (sgC s m) 116).alloc (sgC t n) 116).alloc (sgC false (minusA s m t n)) 116
  simp only[World.size_alloc] at F0
  obtain⟨c,SL,SH⟩:=add_both m n h1 h2
  have ev:Hid ((m:Int)+(n:Int)=((minusA s m t n:Nat):Int)):=Lib.hid (by rw[hv];omega)
  have hq:(s==t)=false:=by simpa using hst
  clear hv h1 h2 hst
  generalize minusA s m t n=r at *
  have F0:=Lib.hid F0
  go_enter Tryz.func65,Tryz.ntmps65
  go_wp2_with (first|simp only[SL]|simp only[SH]|fail)
  rw[ev.out]
  exact bodyPost_ret (ret_cell Tryz.results65 _ _ (w.heap.size+1+1) (sgC false r) _ rfl (F0.out.get 0 rfl) Tryz.underlying116 rfl infoSg) rfl ⟨rfl,F0.out.below⟩
end Tw
namespace Tw
open Go.RowKit Lw

structure Rl where
 least:Int
 most:Int
 speed:Int
 off:Int
 count:Int
abbrev rlC (u:Rl):List Value:=[.int .i64 u.least, .int .i64 u.most, .int .i64 u.speed, .int .i64 u.off, .int .i64 u.count]
abbrev rlV (u:Rl):Value:=.agg (rlC u).toArray
def okR (u:Rl):Prop:=(1≤u.least∧u.least≤u.most∧u.most≤172800000000)∧(0≤u.speed∧u.speed≤72000000000)∧(0≤u.off∧u.off≤3600000000)∧2≤u.count∧u.count≤200
instance (u:Rl):Decidable (okR u):=by unfold okR;exact inferInstance
def ckR (u:Rl):Int:=if okR u then 0 else 8
theorem ck_yes {u:Rl} (h:okR u):Ending.returned (.int .i64 0) = .returned (.int .i64 (ckR u)):=by rw[ckR,if_pos h]
theorem ck_no {u:Rl} (h:¬ okR u):Ending.returned (.int .i64 8) = .returned (.int .i64 (ckR u)):=by rw[ckR,if_neg h]
theorem rule_any (u:Rl) (w:World):Calls Tryz.prog 60 #[rlV u] w fun e w'=>e = .returned (.int .i64 (ckR u))∧Below w.heap.size w w':=by
 have HB:=Lib.hid ((Below.refl w.heap.size w).alloc (Nat.le_refl _) (.cells (rlC u).toArray 24))
 have Y:=Lib.hid (@ck_yes u)
 have Z:=Lib.hid (@ck_no u)
 unfold okR at Y Z
 go_enter Tryz.func60,Tryz.ntmps60
 go_wp2_with fail
 all_goals go_ret
 all_goals first|exact⟨Y.out (by omega),HB.out⟩|exact⟨Z.out (by omega),HB.out⟩|(have hq:=‹(!decide (u.count≤200))=true›;simp at hq;exact⟨Z.out (by omega),HB.out⟩)|(have hq:=‹(!decide (u.count≤200))=false›;simp at hq;exact⟨Y.out (by omega),HB.out⟩)
end Tw
namespace Tk
open _root_.Go.Proofs.YtdnogmanbdgadaaGreatDoor.Op Tw

def dX (a b:Ob):Int:=Pl.dif b.ra a.ra
def dY (a b:Ob):Int:=b.dec-a.dec
def dT (a b:Ob):Int:=b.t-a.t
def alw (u:Rl) (a b:Ob):Prop:=a.site=b.site∧u.least≤dT a b∧dT a b≤u.most∧mag (dX a b) 86400000000≤mag u.speed (dT a b)∧mag (dY a b) 86400000000≤mag u.speed (dT a b)
instance (u:Rl) (a b:Ob):Decidable (alw u a b):=by unfold alw;exact inferInstance
def btw (u:Rl) (a b c:Ob):Prop:=c.site=a.site∧0<dT a c∧dT a c<dT a b∧(dX a c*dT a b-dX a b*dT a c).natAbs≤mag u.off (dT a b)∧(dY a c*dT a b-dY a b*dT a c).natAbs≤mag u.off (dT a b)
instance (u:Rl) (a b c:Ob):Decidable (btw u a b c):=by unfold btw;exact inferInstance
theorem time_bd {t:Int} (h:timeP t):-2000000000000000000≤t∧t≤2000000000000000000:=by
 have h1:-2000000000000000000≤Mp.bgv (-10227) 1972 1:=by decide
 have h2:Mp.bgv 36525 2100 1≤2000000000000000000:=by decide
 exact⟨Int.le_trans h1 h.1,Int.le_trans (Int.le_of_lt h.2) h2⟩
structure Dif (a b:Ob):Prop where
 x0:-648000000000≤dX a b
 x1:dX a b≤648000000000
 y0:-648000000000≤dY a b
 y1:dY a b≤648000000000
 t0:-4000000000000000000≤dT a b
 t1:dT a b≤4000000000000000000
theorem dif_of {a b:Ob} (ha:okO a) (hb:okO b):Dif a b:=by
 have t1:=time_bd ha.1
 have t2:=time_bd hb.1
 obtain⟨x0,x1⟩:=Pl.dif_bd b.ra a.ra
 obtain⟨-, -, -, -, -, -,a0,a1, -⟩:=ha
 obtain⟨-, -, -, -, -, -,b0,b1, -⟩:=hb
 exact⟨x0,x1,by unfold dY;omega,by unfold dY;omega,by unfold dT;omega,by unfold dT;omega⟩
end Tk
namespace Tw
open Go.RowKit Lw Tk _root_.Go.Proofs.YtdnogmanbdgadaaGreatDoor.Op Ow

abbrev ntC (x:Option Addr) (n c:Nat) (u:Rl):List Value:=[.slice x n c, .int .i64 u.least, .int .i64 u.most, .int .i64 u.speed, .int .i64 u.off, .int .i64 u.count]
abbrev ntV (x:Option Addr) (n c:Nat) (u:Rl):Value:=.agg (ntC x n c u).toArray
theorem info2i:(Tryz.prog.info? 112).map (·.size)=some 2:=by kernel_rfl
theorem away_core (n c i j B off:Nat) (u:Rl) (a b:Ob) (w:World) (hi:i<n) (hj:j<n) (lt:B<w.heap.size) (ra:w.rangeAt B (off+i*8) (obsC a)) (rb:w.rangeAt B (off+j*8) (obsC b)) (hD:Dif a b)
  (r0:-9223372036854775808≤a.ra) (r1:a.ra≤9223372036854775807) (r2:-9223372036854775808≤b.ra) (r3:b.ra≤9223372036854775807) :
  Calls Tryz.prog 63 #[ntV (some ⟨B,off,none⟩) n c u, .int .i64 i, .int .i64 j] w fun e w'=>e = .returned (.tuple #[.agg #[.int .i64 (dX a b), .int .i64 (dY a b)], .int .i64 (dT a b)])∧Below w.heap.size w w':=by
 have RA:=Lib.hid (fun w' (hb:Below w.heap.size w w')=>rangeAt_below ra hb lt)
 have RB:=Lib.hid (fun w' (hb:Below w.heap.size w w')=>rangeAt_below rb hb lt)
 have F0:=((Fr.start w).alloc (ntC (some ⟨B,off,none⟩) n c u) 75).alloc [.int .i64 0, .int .i64 0] 112
 simp only[World.size_alloc] at F0
 have F0:=Lib.hid F0
 have i0:(0:Int)≤(i:Int):=by omega
 have i1:(i:Int)<(n:Int):=by omega
 have j0:(0:Int)≤(j:Int):=by omega
 have j1:(j:Int)<(n:Int):=by omega
 have DF:=Lib.hid (fun w'=>Turns.diff_any b.ra a.ra w' r2 r3 r0 r1)
 have DY:=Lib.hid (show IntKind.i64.wrap (b.dec-a.dec)=dY a b from IntWalk.i64_in _ (by have:=hD.y0;have:=hD.y1;unfold dY at *;omega))
 have DT:=Lib.hid (show IntKind.i64.wrap (b.t-a.t)=dT a b from IntWalk.i64_in _ (by have:=hD.t0;have:=hD.t1;unfold dT at *;omega))
 clear ra rb hD r0 r1 r2 r3
 go_enter Tryz.func63,Tryz.ntmps63
 go_wp2_with fail
 have KS:=fun w' (h:Fr w [(w.heap.size+1,[.int .i64 0, .int .i64 0]),(w.heap.size,ntC (some ⟨B,off,none⟩) n c u)] w')=>(show w'.cell? ⟨w.heap.size,0,none⟩=some (.slice (some ⟨B,off,none⟩) n c)∧w'.rangeAt B (off+i*8) (obsC a)∧w'.rangeAt B (off+j*8) (obsC b) from⟨h.cell 1 0 rfl rfl,RA.out _ h.below,RB.out _ h.below⟩)
 refine wp_region_held_drew (S:=fun w'=>w'.cell? ⟨w.heap.size,0,none⟩=some (.slice (some ⟨B,off,none⟩) n c)∧w'.rangeAt B (off+i*8) (obsC a)∧w'.rangeAt B (off+j*8) (obsC b)) (by kernel_rfl) (KS _ F0.out.drew) (fun hHeld=>?_)
 have FQ:=Lib.hid F0.out.drew
 clear F0
 generalize ((w.alloc (.cells (ntC (some ⟨B,off,none⟩) n c u).toArray 75)).alloc (.cells [Value.int .i64 0, .int .i64 0].toArray 112)).drew=wd at *
 refine Lw.tK 0 hHeld (h:=?_)
 refine Lw.tK 1 hHeld (hy:=Or.inl ⟨by rfl,by intro w hSw;obtain⟨s0,sa,sb⟩:=hSw;clear sa sb;go_simp;try with_reducible rfl⟩) (h:=?_)
 refine Lw.tK 2 hHeld (h:=?_)
 refine Lw.tK 3 hHeld (h:=?_)
 refine wpAnyH_take (i:=4) (oi:=?oi4x5) (v:=?v4x5) ?hi4x5 (by kernel_rfl) (by kernel_rfl) (by kernel_rfl) ?hq4x5 ?hy4x5 hHeld ?rest4x5
 case hi4x5=>((try simp only[List.getElem?_toArray,List.getElem?_cons_succ,List.getElem?_cons_zero]);(try rfl))
 case hq4x5=>exact fun _ _ _ h=>h
 case hy4x5 =>
  refine' yieldsIf_load_mid ?_ 31 (.tmp 13) ?_ B (off+i*8) ?_ (obsC a) _ ?_ Tryz.underlying31 ?_ info8
  ·rfl
  ·rfl
  ·rfl
  ·exact fun _ h=>h.2.1
  ·rfl
 try simp only[Act.put,Lw.s1,Lw.s2,Lw.s3]
 refine Lw.tK 5 hHeld (h:=?_)
 refine Lw.tK 6 hHeld (hy:=Or.inl ⟨by rfl,by intro w hSw;obtain⟨s0,sa,sb⟩:=hSw;clear sa sb;go_simp;try with_reducible rfl⟩) (h:=?_)
 refine Lw.tK 7 hHeld (h:=?_)
 refine Lw.tK 8 hHeld (h:=?_)
 refine wpAnyH_take (i:=9) (oi:=?oi9x10) (v:=?v9x10) ?hi9x10 (by kernel_rfl) (by kernel_rfl) (by kernel_rfl) ?hq9x10 ?hy9x10 hHeld ?rest9x10
 case hi9x10=>((try simp only[List.getElem?_toArray,List.getElem?_cons_succ,List.getElem?_cons_zero]);(try rfl))
 case hq9x10=>exact fun _ _ _ h=>h
 case hy9x10 =>
  refine' yieldsIf_load_mid ?_ 31 (.tmp 18) ?_ B (off+j*8) ?_ (obsC b) _ ?_ Tryz.underlying31 ?_ info8
  ·rfl
  ·rfl
  ·rfl
  ·exact fun _ h=>h.2.2
  ·rfl
 try simp only[Act.put,Lw.s1,Lw.s2,Lw.s3]
 refine wpAnyH_ready (rs:=[10,11]) (by kernel_rfl) (by simp) ?_
 refine AllReadyH.cons rfl (fun K' hK=>?_) (AllReadyH.cons rfl (fun K' hK=>?_) AllReadyH.nil)
 ·
  clear hHeld
  go_simp
  have FN:=Lib.hid (FQ.out.alloc (obsC zeroO) 31)
  refine hK.out _ _ (KS _ FN.out.tail) (fun hHeld=>?_)
  clear hK
  try simp only[Act.put,Lw.s1,Lw.s2,Lw.s3]
  refine wpAnyH_ready (rs:=[11]) (by kernel_rfl) (by simp) ?_
  refine AllReadyH.cons rfl (fun K' hK=>?_) AllReadyH.nil
  clear hHeld
  go_simp
  have FN:=Lib.hid (FN.out.alloc (obsC zeroO) 31)
  refine hK.out _ _ (KS _ FN.out.tail.tail) (fun hHeld=>?_)
  clear hK
  try simp only[Act.put,Lw.s1,Lw.s2,Lw.s3]
  refine wpAnyH_ready (rs:=[12]) (by kernel_rfl) (by simp) ?_
  refine AllReadyH.cons rfl (fun K' hK=>?_) AllReadyH.nil
  clear hHeld FN
  go_simp
  have FN:=Lib.hid ((FQ.out.alloc (obsC a) 31).alloc (obsC zeroO) 31)
  refine hK.out _ _ (KS _ FN.out.tail.tail) (fun hHeld=>?_)
  clear hK
  try simp only[Act.put,Lw.s1,Lw.s2,Lw.s3]
  refine wpAnyH_ready (rs:=[13]) (by kernel_rfl) (by simp) ?_
  refine AllReadyH.cons rfl (fun K' hK=>?_) AllReadyH.nil
  clear hHeld FN
  go_simp
  have FN:=Lib.hid ((FQ.out.alloc (obsC a) 31).alloc (obsC b) 31)
  refine hK.out _ _ (KS _ FN.out.tail.tail) (fun hHeld=>?_)
  clear hK
  try simp only[Act.put,Lw.s1,Lw.s2,Lw.s3]
  have FN:=FN.out
  simp only[World.size_alloc] at FN
  have FN:Hid (Fr w [((wd.heap.size+1),obsC b),(wd.heap.size,obsC a),(w.heap.size+1,[.int .i64 0, .int .i64 0]),(w.heap.size,ntC (some ⟨B,off,none⟩) n c u)] _):=Lib.hid FN
  generalize (wd.alloc (.cells (obsC a).toArray 31)).alloc (.cells (obsC b).toArray 31)=wc at *
  refine wpAnyH_done (by kernel_rfl) ?_ _
  clear hHeld
  clear KS FQ RA RB i0 i1 j0 j1
  go_wp2_with fail
  have KS:=fun w' rs (h:Fr w [((wd.heap.size+1),obsC b),(wd.heap.size,obsC a),(w.heap.size+1,rs),(w.heap.size,ntC (some ⟨B,off,none⟩) n c u)] w')=>(show w'.cell? ⟨(wd.heap.size+1),2,none⟩=some (.int .i64 b.t)∧w'.cell? ⟨(wd.heap.size+1),3,none⟩=some (.int .i64 b.ra)∧w'.cell? ⟨(wd.heap.size+1),4,none⟩=some (.int .i64 b.dec)∧w'.cell? ⟨wd.heap.size,2,none⟩=some (.int .i64 a.t)∧w'.cell? ⟨wd.heap.size,3,none⟩=some (.int .i64 a.ra)∧w'.cell? ⟨wd.heap.size,4,none⟩=some (.int .i64 a.dec) from⟨h.cell 0 2 rfl rfl,h.cell 0 3 rfl rfl,h.cell 0 4 rfl rfl,h.cell 1 2 rfl rfl,h.cell 1 3 rfl rfl,h.cell 1 4 rfl rfl⟩)
  refine wp_region_held_drew (S:=fun w'=>w'.cell? ⟨(wd.heap.size+1),2,none⟩=some (.int .i64 b.t)∧w'.cell? ⟨(wd.heap.size+1),3,none⟩=some (.int .i64 b.ra)∧w'.cell? ⟨(wd.heap.size+1),4,none⟩=some (.int .i64 b.dec)∧w'.cell? ⟨wd.heap.size,2,none⟩=some (.int .i64 a.t)∧w'.cell? ⟨wd.heap.size,3,none⟩=some (.int .i64 a.ra)∧w'.cell? ⟨wd.heap.size,4,none⟩=some (.int .i64 a.dec)) (by kernel_rfl) (KS _ _ FN.out.drew) (fun hHeld=>?_)
  have FN:=Lib.hid FN.out.drew
  generalize wc.drew=we at *
  have dy:=DY.out
  have dt:=DT.out
  refine Lw.tK 0 hHeld (h:=?_)
  refine Lw.tK 1 hHeld (hy:=Or.inl ⟨by rfl,by intro w hSw;obtain⟨s0,s1,s2,s3,s4,s5⟩:=hSw;go_simp;try with_reducible rfl⟩) (h:=?_)
  refine Lw.tK 2 hHeld (h:=?_)
  refine Lw.tK 3 hHeld (hy:=Or.inl ⟨by rfl,by intro w hSw;obtain⟨s0,s1,s2,s3,s4,s5⟩:=hSw;go_simp;try with_reducible rfl⟩) (h:=?_)
  refine Lw.tK 5 hHeld (h:=?_)
  refine Lw.tK 6 hHeld (hy:=Or.inl ⟨by rfl,by intro w hSw;obtain⟨s0,s1,s2,s3,s4,s5⟩:=hSw;go_simp;try with_reducible rfl⟩) (h:=?_)
  refine Lw.tK 7 hHeld (h:=?_)
  refine Lw.tK 8 hHeld (hy:=Or.inl ⟨by rfl,by intro w hSw;obtain⟨s0,s1,s2,s3,s4,s5⟩:=hSw;go_simp;try with_reducible rfl⟩) (h:=?_)
  refine Lw.tK 9 hHeld (hy:=Or.inl ⟨by rfl,by intro w hSw;clear hSw;go_simp;(try rw[DY.out]);try with_reducible rfl⟩) (h:=?_)
  refine Lw.tK 11 hHeld (h:=?_)
  refine Lw.tK 12 hHeld (hy:=Or.inl ⟨by rfl,by intro w hSw;obtain⟨s0,s1,s2,s3,s4,s5⟩:=hSw;go_simp;try with_reducible rfl⟩) (h:=?_)
  refine Lw.tK 13 hHeld (h:=?_)
  refine Lw.tK 14 hHeld (hy:=Or.inl ⟨by rfl,by intro w hSw;obtain⟨s0,s1,s2,s3,s4,s5⟩:=hSw;go_simp;try with_reducible rfl⟩) (h:=?_)
  refine Lw.tK 15 hHeld (hy:=Or.inl ⟨by rfl,by intro w hSw;clear hSw;go_simp;(try rw[DT.out]);try with_reducible rfl⟩) (h:=?_)
  refine wpAnyH_ready (rs:=[4]) (by kernel_rfl) (by simp) ?_
  refine AllReadyH.cons rfl (fun K' hK=>?_) AllReadyH.nil
  clear hHeld
  go_simp
  refine(DF.out _).mono ?_
  rintro e w' ⟨rfl,rfl⟩
  refine hK.out _ _ (KS _ _ FN.out) (fun hHeld=>?_)
  clear hK
  try simp only[Act.put,Lw.s1,Lw.s2,Lw.s3]
  refine Lw.tK 10 hHeld (h:=?_)
  refine wpAnyH_ready (rs:=[16]) (by kernel_rfl) (by simp) ?_
  refine AllReadyH.cons rfl (fun K' hK=>?_) AllReadyH.nil
  have cr0:=FN.out.cell 2 0 rfl rfl
  have fr0:=FN.out.fz 2 0 rfl rfl
  have cr1:=FN.out.cell 2 1 rfl rfl
  have fr1:=FN.out.fz 2 1 rfl rfl
  clear hHeld
  go_simp
  clear cr0 cr1 fr0 fr1
  have FT:=Lib.hid (FN.out.put 2 rfl [.int .i64 (dX a b), .int .i64 (dY a b)] rfl)
  refine hK.out _ _ (KS _ _ FT.out) (fun hHeld=>?_)
  clear hK
  try simp only[Act.put,Lw.s1,Lw.s2,Lw.s3]
  refine Lw.tK 17 hHeld (h:=?_)
  refine wpAnyH_done (by kernel_rfl) ?_ _
  clear hHeld
  have G:=Lib.hid (FT.out.get 2 rfl)
  have Z:=Lib.hid FT.out.below
  clear KS FN FT DF DY DT dy dt
  go_wp2_with fail
  exact bodyPost_ret (ret_cell_tmp Tryz.results63 _ _ (w.heap.size+1) [.int .i64 (dX a b), .int .i64 (dY a b)] _ rfl G.out Tryz.underlying112 rfl info2i) rfl ⟨rfl,Z.out⟩
 ·
  clear hHeld
  go_simp
  have FN:=Lib.hid (FQ.out.alloc (obsC zeroO) 31)
  refine hK.out _ _ (KS _ FN.out.tail) (fun hHeld=>?_)
  clear hK
  try simp only[Act.put,Lw.s1,Lw.s2,Lw.s3]
  refine wpAnyH_ready (rs:=[10]) (by kernel_rfl) (by simp) ?_
  refine AllReadyH.cons rfl (fun K' hK=>?_) AllReadyH.nil
  clear hHeld
  go_simp
  have FN:=Lib.hid (FN.out.alloc (obsC zeroO) 31)
  refine hK.out _ _ (KS _ FN.out.tail.tail) (fun hHeld=>?_)
  clear hK
  try simp only[Act.put,Lw.s1,Lw.s2,Lw.s3]
  refine wpAnyH_ready (rs:=[12]) (by kernel_rfl) (by simp) ?_
  refine AllReadyH.cons rfl (fun K' hK=>?_) AllReadyH.nil
  clear hHeld FN
  go_simp
  have FN:=Lib.hid ((FQ.out.alloc (obsC zeroO) 31).alloc (obsC a) 31)
  refine hK.out _ _ (KS _ FN.out.tail.tail) (fun hHeld=>?_)
  clear hK
  try simp only[Act.put,Lw.s1,Lw.s2,Lw.s3]
  refine wpAnyH_ready (rs:=[13]) (by kernel_rfl) (by simp) ?_
  refine AllReadyH.cons rfl (fun K' hK=>?_) AllReadyH.nil
  clear hHeld FN
  go_simp
  have FN:=Lib.hid ((FQ.out.alloc (obsC b) 31).alloc (obsC a) 31)
  refine hK.out _ _ (KS _ FN.out.tail.tail) (fun hHeld=>?_)
  clear hK
  try simp only[Act.put,Lw.s1,Lw.s2,Lw.s3]
  have FN:=FN.out
  simp only[World.size_alloc] at FN
  have FN:Hid (Fr w [((wd.heap.size+1),obsC a),(wd.heap.size,obsC b),(w.heap.size+1,[.int .i64 0, .int .i64 0]),(w.heap.size,ntC (some ⟨B,off,none⟩) n c u)] _):=Lib.hid FN
  generalize (wd.alloc (.cells (obsC b).toArray 31)).alloc (.cells (obsC a).toArray 31)=wc at *
  refine wpAnyH_done (by kernel_rfl) ?_ _
  clear hHeld
  clear KS FQ RA RB i0 i1 j0 j1
  go_wp2_with fail
  have KS:=fun w' rs (h:Fr w [((wd.heap.size+1),obsC a),(wd.heap.size,obsC b),(w.heap.size+1,rs),(w.heap.size,ntC (some ⟨B,off,none⟩) n c u)] w')=>(show w'.cell? ⟨wd.heap.size,2,none⟩=some (.int .i64 b.t)∧w'.cell? ⟨wd.heap.size,3,none⟩=some (.int .i64 b.ra)∧w'.cell? ⟨wd.heap.size,4,none⟩=some (.int .i64 b.dec)∧w'.cell? ⟨(wd.heap.size+1),2,none⟩=some (.int .i64 a.t)∧w'.cell? ⟨(wd.heap.size+1),3,none⟩=some (.int .i64 a.ra)∧w'.cell? ⟨(wd.heap.size+1),4,none⟩=some (.int .i64 a.dec) from⟨h.cell 1 2 rfl rfl,h.cell 1 3 rfl rfl,h.cell 1 4 rfl rfl,h.cell 0 2 rfl rfl,h.cell 0 3 rfl rfl,h.cell 0 4 rfl rfl⟩)
  refine wp_region_held_drew (S:=fun w'=>w'.cell? ⟨wd.heap.size,2,none⟩=some (.int .i64 b.t)∧w'.cell? ⟨wd.heap.size,3,none⟩=some (.int .i64 b.ra)∧w'.cell? ⟨wd.heap.size,4,none⟩=some (.int .i64 b.dec)∧w'.cell? ⟨(wd.heap.size+1),2,none⟩=some (.int .i64 a.t)∧w'.cell? ⟨(wd.heap.size+1),3,none⟩=some (.int .i64 a.ra)∧w'.cell? ⟨(wd.heap.size+1),4,none⟩=some (.int .i64 a.dec)) (by kernel_rfl) (KS _ _ FN.out.drew) (fun hHeld=>?_)
  have FN:=Lib.hid FN.out.drew
  generalize wc.drew=we at *
  have dy:=DY.out
  have dt:=DT.out
  refine Lw.tK 0 hHeld (h:=?_)
  refine Lw.tK 1 hHeld (hy:=Or.inl ⟨by rfl,by intro w hSw;obtain⟨s0,s1,s2,s3,s4,s5⟩:=hSw;go_simp;try with_reducible rfl⟩) (h:=?_)
  refine Lw.tK 2 hHeld (h:=?_)
  refine Lw.tK 3 hHeld (hy:=Or.inl ⟨by rfl,by intro w hSw;obtain⟨s0,s1,s2,s3,s4,s5⟩:=hSw;go_simp;try with_reducible rfl⟩) (h:=?_)
  refine Lw.tK 5 hHeld (h:=?_)
  refine Lw.tK 6 hHeld (hy:=Or.inl ⟨by rfl,by intro w hSw;obtain⟨s0,s1,s2,s3,s4,s5⟩:=hSw;go_simp;try with_reducible rfl⟩) (h:=?_)
  refine Lw.tK 7 hHeld (h:=?_)
  refine Lw.tK 8 hHeld (hy:=Or.inl ⟨by rfl,by intro w hSw;obtain⟨s0,s1,s2,s3,s4,s5⟩:=hSw;go_simp;try with_reducible rfl⟩) (h:=?_)
  refine Lw.tK 9 hHeld (hy:=Or.inl ⟨by rfl,by intro w hSw;clear hSw;go_simp;(try rw[DY.out]);try with_reducible rfl⟩) (h:=?_)
  refine Lw.tK 11 hHeld (h:=?_)
  refine Lw.tK 12 hHeld (hy:=Or.inl ⟨by rfl,by intro w hSw;obtain⟨s0,s1,s2,s3,s4,s5⟩:=hSw;go_simp;try with_reducible rfl⟩) (h:=?_)
  refine Lw.tK 13 hHeld (h:=?_)
  refine Lw.tK 14 hHeld (hy:=Or.inl ⟨by rfl,by intro w hSw;obtain⟨s0,s1,s2,s3,s4,s5⟩:=hSw;go_simp;try with_reducible rfl⟩) (h:=?_)
  refine Lw.tK 15 hHeld (hy:=Or.inl ⟨by rfl,by intro w hSw;clear hSw;go_simp;(try rw[DT.out]);try with_reducible rfl⟩) (h:=?_)
  refine wpAnyH_ready (rs:=[4]) (by kernel_rfl) (by simp) ?_
  refine AllReadyH.cons rfl (fun K' hK=>?_) AllReadyH.nil
  clear hHeld
  go_simp
  refine(DF.out _).mono ?_
  rintro e w' ⟨rfl,rfl⟩
  refine hK.out _ _ (KS _ _ FN.out) (fun hHeld=>?_)
  clear hK
  try simp only[Act.put,Lw.s1,Lw.s2,Lw.s3]
  refine Lw.tK 10 hHeld (h:=?_)
  refine wpAnyH_ready (rs:=[16]) (by kernel_rfl) (by simp) ?_
  refine AllReadyH.cons rfl (fun K' hK=>?_) AllReadyH.nil
  have cr0:=FN.out.cell 2 0 rfl rfl
  have fr0:=FN.out.fz 2 0 rfl rfl
  have cr1:=FN.out.cell 2 1 rfl rfl
  have fr1:=FN.out.fz 2 1 rfl rfl
  clear hHeld
  go_simp
  clear cr0 cr1 fr0 fr1
  have FT:=Lib.hid (FN.out.put 2 rfl [.int .i64 (dX a b), .int .i64 (dY a b)] rfl)
  refine hK.out _ _ (KS _ _ FT.out) (fun hHeld=>?_)
  clear hK
  try simp only[Act.put,Lw.s1,Lw.s2,Lw.s3]
  refine Lw.tK 17 hHeld (h:=?_)
  refine wpAnyH_done (by kernel_rfl) ?_ _
  clear hHeld
  have G:=Lib.hid (FT.out.get 2 rfl)
  have Z:=Lib.hid FT.out.below
  clear KS FN FT DF DY DT dy dt
  go_wp2_with fail
  exact bodyPost_ret (ret_cell_tmp Tryz.results63 _ _ (w.heap.size+1) [.int .i64 (dX a b), .int .i64 (dY a b)] _ rfl G.out Tryz.underlying112 rfl info2i) rfl ⟨rfl,Z.out⟩
end Tw
end Go.Proofs.YtdnogmanbdgadaaGreatDoor
