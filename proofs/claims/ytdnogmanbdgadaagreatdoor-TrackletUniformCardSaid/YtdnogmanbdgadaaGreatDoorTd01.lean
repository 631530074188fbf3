/-
  Lemmas and walks, texts joined: Law, QRat, QLs, QGrid, QMov, QAl, TLUPl, TLSl, TLUni.
-/
import Derived.WalkKit
import Derived.Deep.WholeRow
import Derived.Deep.MidRow
import Derived.Below
import Derived.Deep.QuietTactic
import Derived.RangeFuncNested
import Derived.RangeFuncBound
import Derived.RangeFuncCalls
import Derived.RangeFuncLeaves
import Derived.RangeFuncBox
import Derived.Shelf.Abstract
import Derived.Shelf.RegionOpen
import Derived.OwnWalkIn
import Derived.TacticsInMore
import Derived.LoopNIn
import Derived.LoopIn
import Derived.ProofKit
import Derived.Lib.Hide
import Derived.Laws.RangeAny
import Derived.LoopTactic
import Derived.BigQuiet
import Derived.WalkLawsBesides
import Derived.WalkSpells
import Derived.OneCell
import Derived.OwnWalk
import Derived.Deep.AppendLies
import Derived.StillTailTactics
import Derived.ChangeKeysEq
import Derived.Deep.RegionHeld3
import Derived.Laws.BitsAllLaws
import Derived.Maps.AppendAt
import Derived.Shelf.Bits.Mul64
import Derived.Shelf.LaysM
import Derived.Shelf.Pu.ParseUintPublic10
import Derived.Shelf.SlicesE.Clone
import Derived.Shelf.Small.Bits
import Derived.Shelf.Small.Strs
import Derived.Shelf.Small.Utf8
import Derived.Shelf.Small.Wraps
import Derived.Shelf.Strconv.Itoa0
import Derived.Shelf.Strconv.Itoa1
import Derived.Shelf.Strconv.Itoa2
import Derived.Shelf.Strconv.Itoa3
import Derived.Shelf.Strconv.Itoa4
import Derived.Shelf.Strings.Builder1
import Derived.Shelf.Strings.Builder2
import Derived.Shelf.Strings.BuilderF
import Derived.Shelf.Strings.Cut
import Derived.Shelf.Strings.OnBuilder
import Derived.Shelf.Strings.Prefix
import Derived.Shelf.Strings.Repeat
import Derived.Shelf.Strings.Runes
import Derived.Shelf.Strings.Search1
import Derived.Shelf.Strings.Search2
import Derived.Shelf.Strings.Shaped
import Derived.Shelf.Strings.SlTrimAscii
import Derived.Shelf.Strings.Trim
import Derived.Laws.CopyOwn
import Derived.Recover
import Derived.Defers
import Derived.Lib.SmallJoins
import Derived.Lib.LaidTab
import Derived.Laws.Concat
import Derived.Lib.Repeat
import Derived.Lib.ItoaLen
import Derived.Sort.Grow
import Derived.Outline
import Derived.Lib.BitFns
import Derived.Laws.Bits64b
import Derived.Lib.AtoiErrMem
import Derived.Laws.IdiomStrings
import Derived.Deep.DeepCutAuto
import Derived.Deep.Cut
import Derived.Lib.Join
import Derived.Deep.OwnRows
import Derived.Laws.IdiomCopy
import Derived.Laws.DeepBits32
import Derived.RegionTactic
import Derived.BigRegion
import Derived.IntWalk
import Derived.ScopeJumps
import Derived.Lib.AppendZeros
import Derived.Sort.CutIn
import Derived.Shelf.Spec.BitsCarry
import Derived.Laws.AppendOwnNone
import Derived.Shelf.SlicesQ.Contains
import Derived.Shelf.SlicesQ.IndexFunc
import Derived.Shelf.SlSortCmp.Whole1
import Derived.Shelf.Spec.TrailingZeros
import Derived.Shelf.SlSortCmp.NoneTotal
import Derived.Laws.StructEq
import Derived.RangeFuncWrites
import Derived.Deep.CutBlock
import Derived.Deep.CutRange
import Derived.Deep.Slices
import Derived.Deep.Fields
import Derived.ChangeSame
import Derived.OpenShut
import Derived.DeepKeys
import Derived.Test.YtdnogmanbdgadaaGreatDoorRows
import Derived.Test.YtdnogmanbdgadaaGreatDoorProg
import Derived.Test.YtdnogmanbdgadaaGreatDoorTb01
import Derived.Test.YtdnogmanbdgadaaGreatDoorTb02
import Derived.Test.YtdnogmanbdgadaaGreatDoorTb03
import Derived.Test.YtdnogmanbdgadaaGreatDoorTb04
import Derived.Test.YtdnogmanbdgadaaGreatDoorTb05
import Derived.Test.YtdnogmanbdgadaaGreatDoorTb06
import Derived.Test.YtdnogmanbdgadaaGreatDoorTb07
import Derived.Test.YtdnogmanbdgadaaGreatDoorTb08
import Derived.Test.YtdnogmanbdgadaaGreatDoorTb09
import Derived.Test.YtdnogmanbdgadaaGreatDoorTb10
import Derived.Test.YtdnogmanbdgadaaGreatDoorTb11
import Derived.Test.YtdnogmanbdgadaaGreatDoorTb12
import Derived.Test.YtdnogmanbdgadaaGreatDoorTb13
import Derived.Test.YtdnogmanbdgadaaGreatDoorTb14
import Derived.Test.YtdnogmanbdgadaaGreatDoorTb15
import Derived.Test.YtdnogmanbdgadaaGreatDoorTb16
import Derived.Test.YtdnogmanbdgadaaGreatDoorTb17
import Derived.Test.YtdnogmanbdgadaaGreatDoorTb18
import Derived.Test.YtdnogmanbdgadaaGreatDoorTb19
import Derived.Test.YtdnogmanbdgadaaGreatDoorTb20
import Derived.Test.YtdnogmanbdgadaaGreatDoorTb21
import Derived.Test.YtdnogmanbdgadaaGreatDoorTb22
import Derived.Test.YtdnogmanbdgadaaGreatDoorTb23
import Derived.Test.YtdnogmanbdgadaaGreatDoorTb24
import Derived.Test.YtdnogmanbdgadaaGreatDoorTb25
import Derived.Test.YtdnogmanbdgadaaGreatDoorTb26
import Derived.Test.YtdnogmanbdgadaaGreatDoorTb27
import Derived.Test.YtdnogmanbdgadaaGreatDoorTb28
import Derived.Test.YtdnogmanbdgadaaGreatDoorTb29
import Derived.Test.YtdnogmanbdgadaaGreatDoorTb30
import Derived.Test.YtdnogmanbdgadaaGreatDoorTb31
import Derived.Test.YtdnogmanbdgadaaGreatDoorTb32
import Derived.Test.YtdnogmanbdgadaaGreatDoorTb33
import Derived.Test.YtdnogmanbdgadaaGreatDoorTb34
import Derived.Test.YtdnogmanbdgadaaGreatDoorTb35
import Derived.Test.YtdnogmanbdgadaaGreatDoorTb36
import Derived.Test.YtdnogmanbdgadaaGreatDoorTb37
import Derived.Test.YtdnogmanbdgadaaGreatDoorTb38
import Derived.Test.YtdnogmanbdgadaaGreatDoorTb39
import Derived.Test.YtdnogmanbdgadaaGreatDoorTb40
import Derived.Test.YtdnogmanbdgadaaGreatDoorTb41
import Derived.Test.YtdnogmanbdgadaaGreatDoorTb42
set_option linter.unusedSimpArgs false
set_option linter.unusedVariables false
set_option maxRecDepth 100000
set_option maxHeartbeats 40000000
namespace Go.Proofs.YtdnogmanbdgadaaGreatDoor
namespace Lw
open Go.RowKit

section
variable {P : Program}
end
section
variable {P : Program}
end
theorem quiet_left {P:Program} {f:FuncId} {args:Array Value} {w:World} {n:Nat} {v:Value}
  (h:Calls P f args (w.drewN n) fun e w'=>e = .returned v∧w.drewN n=w'):Calls P f args (w.drewN n) fun e w''=>e = .returned v ∧ ∃ m,w''=w.drewN m :=
 h.mono fun _ _ ⟨he,hm⟩=>⟨he,n,hm.symm⟩
section
variable {P : Program}
end
end Lw
namespace Wd
open Go.RowKit Lw

theorem FracR.sets {B:Nat} {w:World} {V:Value} {r:Rat} (h:FracR B w V r) (b:Nat) (hb:b<B) (o:Nat) (vs:List Value):FracR B (w.setCells b o vs) V r:=by
 obtain⟨a,k,c,a',k',c',e,h1,h2,h3,h4⟩:=h
 exact⟨a,k,c,a',k',c',e,h1.setCells (fun b' off e=>by have:=h3 b' off e;omega) _ _,h2.setCells (fun b' off e=>by have:=h4 b' off e;omega) _ _,h3,h4⟩
end Wd
namespace Ls

theorem S_congr {a a' b b':Nat→Int} {n:Nat} (ha:∀ i,i<n→a i=a' i) (hb:∀ i,i<n→b i=b' i):S a b n=S a' b' n:=by
 induction n with
 | zero=>rfl
 | succ n ih=>rw[S,S,ih (fun i h=>ha i (by omega)) (fun i h=>hb i (by omega)),ha n (by omega),hb n (by omega)]
theorem S_line (t v:Nat→Int) (al be:Rat) (n:Nat) (h:∀ i,i<n→(v i:Rat)=al+be*(t i:Rat)) :
  (S one v n:Rat)=n*al+be*S one t n∧(S t v n:Rat)=al*S one t n+be*S t t n:=by
 induction n with
 | zero=>simp[S,Rat.add_zero]
 | succ n ih =>
  obtain⟨h1,h2⟩:=ih (fun i hi=>h i (by omega))
  have hn:=h n (by omega)
  simp only[S,one]
  push_cast
  constructor <;> grind
theorem line_x (t v:Nat→Int) (al be:Rat) (n:Nat) (h0:0<n) (hD:0<D t n) (h:∀ i,i<n→(v i:Rat)=al+be*(t i:Rat)):x1 t v n=be∧x0 t v n=al:=by
 obtain⟨h1,h2⟩:=S_line t v al be n h
 have d0:(D t n:Rat)≠0:=fun e=>by
  have:D t n=0:=by exact_mod_cast e
  omega
 have n0:(n:Rat)≠0:=fun e=>by
  have:n=0:=by exact_mod_cast e
  omega
 have e1:x1 t v n=be:=by
  have:(E t v n:Rat)=be*(D t n:Rat):=by
   simp only[E,D,S_one]
   push_cast
   rw[h1,h2]
   grind
  rw[x1,this,Rat.mul_div_cancel d0]
 refine⟨e1,?_⟩
 rw[x0,e1,S_one,h1]
 have:(n:Rat)*al+be*(S one t n:Rat)-(S one t n:Rat)*be=al*((n:Int):Rat):=by push_cast;grind
 rw[this,Rat.mul_div_cancel (by push_cast;exact n0)]
theorem roundR_int (z:Int):roundR (z:Rat)=z:=by
 simp[roundR]
end Ls
namespace Wd
open Go.RowKit Lw Tw

theorem WcR.below {w w':World} {B:Nat} {x:Wc} {z:Int} (h:WcR w B x z) (hb:Below w.heap.size w w'):WcR w' B x z:=⟨h.s,h.n.below hb,h.f⟩
theorem Wide.cells {w:World} {B:Nat} {V:Value} {z:Int} (h:Wide B w V z):∃ x:Wc,V = .agg (wcE x).toArray∧WcR w B x z:=by
 obtain⟨a,k,c,e,h1,h2⟩:=h
 exact⟨⟨decide (z<0),a,k,c⟩,e,rfl,h1,h2⟩
end Wd
namespace Wd
open Go.RowKit Lw Tw

def mvR (a r t:Int):Rat:=(a:Rat)+mkRat (r*t) 86400000000
theorem mvR_len {a r t:Int} (ha:-9223372036854775808≤a∧a<9223372036854775808) (hr:-9223372036854775808≤r∧r<9223372036854775808) (ht:-9223372036854775808≤t∧t<9223372036854775808):FL (a:Rat) 2∧FL (mkRat (r*t) 86400000000) 4∧FL (mvR a r t) 7∧(canon (r*t).natAbs).length≤4:=by
 have hp:(canon (r*t).natAbs).length≤4:=by
  have:=len_mulZ r t
  have:=len_i64 hr.1 hr.2
  have:=len_i64 ht.1 ht.2
  omega
 have f1:FL (a:Rat) 2:=FL.int (len_i64 ha.1 ha.2) (by decide)
 have f2:FL (mkRat (r*t) 86400000000) 4:=FL.of (by decide) hp (canon_len 4 _ (by decide))
 exact⟨f1,f2,f1.add f2,hp⟩
theorem moved_any (a r t:Int) (w:World) (ha:-9223372036854775808≤a∧a<9223372036854775808) (hr:-9223372036854775808≤r∧r<9223372036854775808) (ht:-9223372036854775808≤t∧t<9223372036854775808) :
  Calls Tryz.prog 52 #[.int .i64 a, .int .i64 r, .int .i64 t] w fun e w'=>e = .returned (.tuple #[.int .i64 (intE (Ls.roundR (mvR a r t))).1, .int .i64 (intE (Ls.roundR (mvR a r t))).2])∧Below w.heap.size w w':=by
 obtain⟨l1,l2,l3,l4⟩:=mvR_len ha hr ht
 have OF:=Lib.hid (fun w'=>of_any a 1 w' ha.1 ha.2 (by decide) (by decide))
 rw[show Int.toNat 1=1 from rfl,Rat.mkRat_one a] at OF
 have FR:=Lib.hid (fun w'=>from_walk r w' hr.1 hr.2)
 have FT:=Lib.hid (fun w'=>from_walk t w' ht.1 ht.2)
 have l5:=len_i64 hr.1 hr.2
 have l6:=len_i64 ht.1 ht.2
 have MU:=Lib.hid (fun V1 V2 w' (h1:Wide 0 w' V1 r) (h2:Wide 0 w' V2 t)=>mul_walk V1 V2 r t w' h1 h2 (by omega))
 have MK:=Lib.hid (fun V1 V2 w' (h1:Wide 0 w' V1 (r*t)) (h2:Wide 0 w' V2 ((86400000000:Nat):Int))=>make_any V1 V2 (r*t) 86400000000 w' h1 h2 (by decide) (Nat.le_trans l4 (by decide)) (Nat.le_trans (canon_len 4 _ (by decide)) (by decide)))
 obtain⟨q,hq⟩:∃ q:Rat,q=mkRat (r*t) 86400000000:=⟨_,rfl⟩
 rw[← hq] at MK l2
 have AD:=Lib.hid (fun V1 V2 w' (h1:FracR 0 w' V1 (a:Rat)) (h2:FracR 0 w' V2 q)=>fadd_any V1 V2 (a:Rat) q w' h1 h2 (l1.mono (by decide)) (l2.mono (by decide)))
 have RD:=Lib.hid (fun V w' (h:FracR 0 w' V (mvR a r t))=>rounded_any V (mvR a r t) w' h (l3.mono (by decide)))
 have em:(a:Rat)+q=mvR a r t:=by rw[hq];rfl
 rw[em] at AD
 generalize mvR a r t=v at *
 generalize Ls.roundR v=z at *
 generalize (intE z).1=z1 at *
 generalize (intE z).2=z2 at *
 obtain⟨ar,har⟩:∃ x:Rat,x=(a:Rat):=⟨_,rfl⟩
 rw[← har] at OF AD
 obtain⟨p,hp⟩:∃ x:Int,x=r*t:=⟨_,rfl⟩
 rw[← hp] at MU MK
 clear l1 l2 l3 l4 l5 l6 ha hr ht hq em har hp
 go_enter Tryz.func52,Tryz.ntmps52
 go_wp2_with fail
 refine(OF.out _).mono ?_
 rintro e w1 ⟨V,rfl,hV,hb⟩
 obtain⟨x,rfl,hx⟩:=hV.cells
 have F1:=((Fr.start w).call hb).alloc (fcE x) 68
 have HX:=Lib.hid (hx.below ((Below.refl _ w1).alloc (Nat.le_refl _) (.cells (fcE x).toArray 68)))
 replace F1:=Lib.hid F1
 have S1:=Lib.hid hb.size
 clear hb hx hV OF
 go_wp2_with fail
 refine(FR.out _).mono ?_
 rintro e w2 ⟨V2,rfl,hV2,hb⟩
 replace F1:=Lib.hid (F1.out.call hb)
 replace HX:=Lib.hid (HX.out.below hb)
 have H2:=Lib.hid (hV2.mono (Nat.zero_le _))
 clear hV2 hb FR
 go_wp2_with fail
 refine(FT.out _).mono ?_
 rintro e w3 ⟨V3,rfl,hV3,hb⟩
 replace F1:=Lib.hid (F1.out.call hb)
 replace HX:=Lib.hid (HX.out.below hb)
 replace H2:=Lib.hid (H2.out.below hb)
 have H3:=Lib.hid (hV3.mono (Nat.zero_le _))
 clear hV3 hb FT
 go_wp2_with fail
 refine(MU.out _ _ _ H2.out H3.out).mono ?_
 rintro e w4 ⟨V4,rfl,hV4,hb⟩
 obtain⟨x4,rfl,hx4⟩:=hV4.cells
 have F2:=(F1.out.call hb).alloc (wcE x4) 66
 have ba:=(Below.refl _ w4).alloc (Nat.le_refl _) (.cells (wcE x4).toArray 66)
 replace HX:=Lib.hid ((HX.out.below hb).below ba)
 have H4:=Lib.hid (hx4.below ba)
 obtain⟨c0,c1⟩:=F2.c2 0 rfl
 replace F2:=Lib.hid F2
 clear hV4 hb ba hx4 F1 H2 H3 MU
 go_upto_region 7 with fail
 clear c0 c1
 obtain⟨w5,hw5⟩:∃ W,W=w4.alloc (.cells #[.bool x4.s, .slice x4.a x4.k x4.c] 66):=⟨_,rfl⟩
 replace HX:Hid (FcR w5 w.heap.size x ar):=by rw[hw5];exact HX
 replace H4:Hid (WcR w5 w3.heap.size x4 p):=by rw[hw5];exact H4
 replace F2:Hid (Fr w [(w4.heap.size,wcE x4),(w1.heap.size,fcE x)] w5):=by rw[hw5];exact F2
 rw[← hw5]
 clear hw5
 go_cut [9,11] (fun e p wx=>NewF w [(w4.heap.size,wcE x4),(w1.heap.size,fcE x)] w5 q p wx∧e = .int .i64 0)
 case first =>
  have FF:=Lib.hid F2.out.drew
  have HS:=Lib.hid (show Lim w5.drew x4.a x4.k x4.c (canon p.natAbs) from H4.out.n.below (Below.refl _ _).drew)
  have X4:=Lib.hid H4.out.s
  obtain⟨B0,hB0⟩:∃ b,b=w5.drew.heap.size:=⟨_,rfl⟩
  have LO:=Lib.hid (show w5.heap.size≤B0 from by rw[hB0];exact Nat.le_refl _)
  have BB:=Lib.hid (Below.refl B0 w5.drew)
  have BQ:=Lib.hid (show B0≤w5.drew.heap.size from Nat.le_of_eq hB0)
  clear hB0
  have LB:=Lib.hid ((Below.refl w5.heap.size w5).drew)
  clear F2 H4 HX AD RD
  refine TillSt.start (fun w'=>w'.cell? ⟨w4.heap.size,0,none⟩=some (.bool (decide (p<0)))∧w'.cell? ⟨w4.heap.size,1,none⟩=some (.slice x4.a x4.k x4.c)) 7 (by kernel_rfl) (⟨(FF.out.cell 0 0 rfl rfl).trans (by rw[X4.out]),FF.out.cell 0 1 rfl rfl⟩) (fun hHeld=>?_)
  generalize w5.drew=wd at *
  refine TillSt.tL 0 hHeld (hy:=Or.inl ⟨by rfl,by intro w hSw;obtain⟨q1,q2⟩:=hSw;go_simp;try with_reducible rfl⟩) (h:=?_)
  refine TillSt.nx [1,6] ?_
  refine NextSt.cons rfl (fun K' hK=>?_) (NextSt.cons rfl (fun K' hK=>?_) NextSt.nil)
  ·
   clear hHeld
   go_simp
   refine(from_walk 86400000000 _ (by decide) (by decide)).mono ?_
   rintro e w6 ⟨V6,rfl,hV,hb⟩
   replace FF:=Lib.hid (FF.out.call hb)
   replace HS:=Lib.hid (HS.out.below hb)
   replace BB:=Lib.hid (BB.out.trans (hb.mono BQ.out))
   replace BQ:=Lib.hid (Nat.le_trans BQ.out hb.size)
   have H6:=Lib.hid (show Wide 0 w6 V6 ((86400000000:Nat):Int) from hV.mono (Nat.zero_le _))
   clear hV hb
   refine hK.out _ _ (⟨(FF.out.cell 0 0 rfl rfl).trans (by rw[X4.out]),FF.out.cell 0 1 rfl rfl⟩) (fun hHeld=>?_)
   clear hK
   try simp only[Act.put,Lw.s1,Lw.s2,Lw.s3]
   refine TillSt.nx [2,6] ?_
   refine NextSt.cons rfl (fun K' hK=>?_) (NextSt.cons rfl (fun K' hK=>?_) NextSt.nil)
   ·
    clear hHeld
    go_simp
    refine(MK.out _ V6 _ (wide0 HS.out) H6.out).mono ?_
    rintro e w7 ⟨V,rfl,⟨aq,kq,cq,aq2,kq2,cq2,rfl,l1,l2,f1,f2⟩,hb⟩
    have G1:=Lib.hid (fun b off e=>Nat.le_trans BQ.out (f1 b off e))
    have G2:=Lib.hid (fun b off e=>Nat.le_trans BQ.out (f2 b off e))
    replace FF:=Lib.hid (FF.out.call hb)
    replace BB:=Lib.hid (BB.out.trans (hb.mono BQ.out))
    replace BQ:=Lib.hid (Nat.le_trans BQ.out hb.size)
    have L1:=Lib.hid l1
    have L2:=Lib.hid l2
    clear l1 l2 f1 f2 hb H6 HS
    refine hK.out _ _ (⟨(FF.out.cell 0 0 rfl rfl).trans (by rw[X4.out]),FF.out.cell 0 1 rfl rfl⟩) (fun hHeld=>?_)
    clear hK
    try simp only[Act.put,Lw.s1,Lw.s2,Lw.s3]
    refine TillSt.tP 3 (fun _=>hHeld) ?_
    refine TillSt.tP 4 (fun _=>hHeld) ?_
    refine TillSt.tP 5 (fun _=>hHeld) ?_
    refine TillSt.nx [6] ?_
    refine NextSt.cons rfl (fun K' hK=>?_) NextSt.nil
    clear hHeld
    go_simp
    have FA:=FF.out.alloc (frV false none 0 0 false none 0 0) 68
    have ba:=(Below.refl _ w7).alloc (Nat.le_refl _) (.cells (frV false none 0 0 false none 0 0).toArray 68)
    have NB:=Lib.hid BQ.out
    replace BB:=Lib.hid (BB.out.trans (ba.mono BQ.out))
    replace BQ:=Lib.hid (Nat.le_trans BQ.out ba.size)
    replace FF:=Lib.hid FA
    have G3:=Lib.hid (fun (p:0<kq) b off e=>Nat.ne_of_lt (L1.out.lt p (b:=b) (off:=off) e))
    have G4:=Lib.hid (fun (p:0<kq2) b off e=>Nat.ne_of_lt (L2.out.lt p (b:=b) (off:=off) e))
    replace L1:=Lib.hid (L1.out.below ba)
    replace L2:=Lib.hid (L2.out.below ba)
    clear FA ba
    generalize w7.heap.size=bN at *
    generalize World.alloc w7 (.cells #[.bool false, .slice none 0 0, .bool false, .slice none 0 0] 68)=wn at *
    refine hK.out _ _ (⟨(FF.out.cell 1 0 rfl rfl).trans (by rw[X4.out]),FF.out.cell 1 1 rfl rfl⟩) (fun hHeld=>?_)
    clear hK
    try simp only[Act.put,Lw.s1,Lw.s2,Lw.s3]
    refine TillSt.nx [7] ?_
    refine NextSt.last rfl (by kernel_rfl) (fun K' hK=>?_) NextSt.nil
    obtain⟨s0,s1,s2,s3⟩:=FF.out.c4 0 rfl
    obtain⟨s4,s5,s6,s7⟩:=FF.out.f4 0 rfl
    clear hHeld
    go_simp
    clear s0 s1 s2 s3 s4 s5 s6 s7
    refine hK.out _ _ ?_
    clear hK
    try simp only[Act.put,Lw.s1,Lw.s2,Lw.s3]
    refine TillSt.tP 8 (fun q=>by cases q) ?_
    refine TillSt.done (by kernel_rfl) ?_ _
    have PQ:=FF.out.put 0 rfl (frV (decide (q.num<0)) aq kq cq false aq2 kq2 cq2) rfl
    have bb:=below_setCells bN NB.out (frV (decide (q.num<0)) aq kq cq false aq2 kq2 cq2) 0 _ BB.out
    have nf:=Lib.hid (show NewF _ _ _ q (.pointer (some ⟨bN,0,none⟩)) _ from⟨bN,⟨decide (q.num<0),aq,kq,cq,aq2,kq2,cq2⟩,rfl,Nat.le_trans LO.out NB.out,PQ,⟨rfl,L1.out.setCellsK G3.out 0 (frV (decide (q.num<0)) aq kq cq false aq2 kq2 cq2),L2.out.setCellsK G4.out 0 (frV (decide (q.num<0)) aq kq cq false aq2 kq2 cq2),fun b off e=>Nat.le_trans LO.out (G1.out b off e),fun b off e=>Nat.le_trans LO.out (G2.out b off e)⟩,⟨fun p b off e q=>G3.out p b off e (by cases q;rfl),fun p b off e q=>G4.out p b off e (by cases q;rfl)⟩,LB.out.trans (bb.mono LO.out)⟩)
    clear PQ bb FF BB BQ L1 L2 G1 G2 G3 G4 NB
    go_wp2_with fail
    go_meet
    case rel=>exact⟨nf.out,rfl⟩
   ·
    clear hHeld
    go_simp
    have FA:=FF.out.alloc (frV false none 0 0 false none 0 0) 68
    have ba:=(Below.refl _ w6).alloc (Nat.le_refl _) (.cells (frV false none 0 0 false none 0 0).toArray 68)
    have NB:=Lib.hid BQ.out
    replace BB:=Lib.hid (BB.out.trans (ba.mono BQ.out))
    replace BQ:=Lib.hid (Nat.le_trans BQ.out ba.size)
    replace FF:=Lib.hid FA
    replace HS:=Lib.hid (HS.out.below ba)
    replace H6:=Lib.hid (H6.out.below ba)
    clear FA ba
    generalize w6.heap.size=bN at *
    generalize World.alloc w6 (.cells #[.bool false, .slice none 0 0, .bool false, .slice none 0 0] 68)=wn at *
    refine hK.out _ _ (⟨(FF.out.cell 1 0 rfl rfl).trans (by rw[X4.out]),FF.out.cell 1 1 rfl rfl⟩) (fun hHeld=>?_)
    clear hK
    try simp only[Act.put,Lw.s1,Lw.s2,Lw.s3]
    refine TillSt.nx [2] ?_
    refine NextSt.cons rfl (fun K' hK=>?_) NextSt.nil
    clear hHeld
    go_simp
    refine(MK.out _ V6 _ (wide0 HS.out) H6.out).mono ?_
    rintro e w7 ⟨V,rfl,⟨aq,kq,cq,aq2,kq2,cq2,rfl,l1,l2,f1,f2⟩,hb⟩
    have fq:=(FF.out.least 0 rfl).2
    have G1:=Lib.hid (fun b off e=>Nat.le_trans BQ.out (f1 b off e))
    have G2:=Lib.hid (fun b off e=>Nat.le_trans BQ.out (f2 b off e))
    have G3:=Lib.hid (fun (_:0<kq) b off e=>(Nat.ne_of_lt (Nat.lt_of_lt_of_le fq (f1 b off e))).symm)
    have G4:=Lib.hid (fun (_:0<kq2) b off e=>(Nat.ne_of_lt (Nat.lt_of_lt_of_le fq (f2 b off e))).symm)
    clear fq
    replace FF:=Lib.hid (FF.out.call hb)
    replace BB:=Lib.hid (BB.out.trans (hb.mono BQ.out))
    replace BQ:=Lib.hid (Nat.le_trans BQ.out hb.size)
    have L1:=Lib.hid l1
    have L2:=Lib.hid l2
    clear l1 l2 f1 f2 hb H6 HS
    refine hK.out _ _ (⟨(FF.out.cell 1 0 rfl rfl).trans (by rw[X4.out]),FF.out.cell 1 1 rfl rfl⟩) (fun hHeld=>?_)
    clear hK
    try simp only[Act.put,Lw.s1,Lw.s2,Lw.s3]
    refine TillSt.tP 3 (fun _=>hHeld) ?_
    refine TillSt.tP 4 (fun _=>hHeld) ?_
    refine TillSt.tP 5 (fun _=>hHeld) ?_
    refine TillSt.nx [7] ?_
    refine NextSt.last rfl (by kernel_rfl) (fun K' hK=>?_) NextSt.nil
    obtain⟨s0,s1,s2,s3⟩:=FF.out.c4 0 rfl
    obtain⟨s4,s5,s6,s7⟩:=FF.out.f4 0 rfl
    clear hHeld
    go_simp
    clear s0 s1 s2 s3 s4 s5 s6 s7
    refine hK.out _ _ ?_
    clear hK
    try simp only[Act.put,Lw.s1,Lw.s2,Lw.s3]
    refine TillSt.tP 8 (fun q=>by cases q) ?_
    refine TillSt.done (by kernel_rfl) ?_ _
    have PQ:=FF.out.put 0 rfl (frV (decide (q.num<0)) aq kq cq false aq2 kq2 cq2) rfl
    have bb:=below_setCells bN NB.out (frV (decide (q.num<0)) aq kq cq false aq2 kq2 cq2) 0 _ BB.out
    have nf:=Lib.hid (show NewF _ _ _ q (.pointer (some ⟨bN,0,none⟩)) _ from⟨bN,⟨decide (q.num<0),aq,kq,cq,aq2,kq2,cq2⟩,rfl,Nat.le_trans LO.out NB.out,PQ,⟨rfl,L1.out.setCellsK G3.out 0 (frV (decide (q.num<0)) aq kq cq false aq2 kq2 cq2),L2.out.setCellsK G4.out 0 (frV (decide (q.num<0)) aq kq cq false aq2 kq2 cq2),fun b off e=>Nat.le_trans LO.out (G1.out b off e),fun b off e=>Nat.le_trans LO.out (G2.out b off e)⟩,⟨fun p b off e q=>G3.out p b off e (by cases q;rfl),fun p b off e q=>G4.out p b off e (by cases q;rfl)⟩,LB.out.trans (bb.mono LO.out)⟩)
    clear PQ bb FF BB BQ L1 L2 G1 G2 G3 G4 NB
    go_wp2_with fail
    go_meet
    case rel=>exact⟨nf.out,rfl⟩
  ·
   clear hHeld
   go_simp
   have FA:=FF.out.alloc (frV false none 0 0 false none 0 0) 68
   have ba:=(Below.refl _ wd).alloc (Nat.le_refl _) (.cells (frV false none 0 0 false none 0 0).toArray 68)
   have NB:=Lib.hid BQ.out
   replace BB:=Lib.hid (BB.out.trans (ba.mono BQ.out))
   replace BQ:=Lib.hid (Nat.le_trans BQ.out ba.size)
   replace FF:=Lib.hid FA
   replace HS:=Lib.hid (HS.out.below ba)
   clear FA ba
   generalize wd.heap.size=bN at *
   generalize World.alloc wd (.cells #[.bool false, .slice none 0 0, .bool false, .slice none 0 0] 68)=wn at *
   refine hK.out _ _ (⟨(FF.out.cell 1 0 rfl rfl).trans (by rw[X4.out]),FF.out.cell 1 1 rfl rfl⟩) (fun hHeld=>?_)
   clear hK
   try simp only[Act.put,Lw.s1,Lw.s2,Lw.s3]
   refine TillSt.nx [1] ?_
   refine NextSt.cons rfl (fun K' hK=>?_) NextSt.nil
   clear hHeld
   go_simp
   refine(from_walk 86400000000 _ (by decide) (by decide)).mono ?_
   rintro e w6 ⟨V6,rfl,hV,hb⟩
   replace FF:=Lib.hid (FF.out.call hb)
   replace HS:=Lib.hid (HS.out.below hb)
   replace BB:=Lib.hid (BB.out.trans (hb.mono BQ.out))
   replace BQ:=Lib.hid (Nat.le_trans BQ.out hb.size)
   have H6:=Lib.hid (show Wide 0 w6 V6 ((86400000000:Nat):Int) from hV.mono (Nat.zero_le _))
   clear hV hb
   refine hK.out _ _ (⟨(FF.out.cell 1 0 rfl rfl).trans (by rw[X4.out]),FF.out.cell 1 1 rfl rfl⟩) (fun hHeld=>?_)
   clear hK
   try simp only[Act.put,Lw.s1,Lw.s2,Lw.s3]
   refine TillSt.nx [2] ?_
   refine NextSt.cons rfl (fun K' hK=>?_) NextSt.nil
   clear hHeld
   go_simp
   refine(MK.out _ V6 _ (wide0 HS.out) H6.out).mono ?_
   rintro e w7 ⟨V,rfl,⟨aq,kq,cq,aq2,kq2,cq2,rfl,l1,l2,f1,f2⟩,hb⟩
   have fq:=(FF.out.least 0 rfl).2
   have G1:=Lib.hid (fun b off e=>Nat.le_trans BQ.out (f1 b off e))
   have G2:=Lib.hid (fun b off e=>Nat.le_trans BQ.out (f2 b off e))
   have G3:=Lib.hid (fun (_:0<kq) b off e=>(Nat.ne_of_lt (Nat.lt_of_lt_of_le fq (f1 b off e))).symm)
   have G4:=Lib.hid (fun (_:0<kq2) b off e=>(Nat.ne_of_lt (Nat.lt_of_lt_of_le fq (f2 b off e))).symm)
   clear fq
   replace FF:=Lib.hid (FF.out.call hb)
   replace BB:=Lib.hid (BB.out.trans (hb.mono BQ.out))
   replace BQ:=Lib.hid (Nat.le_trans BQ.out hb.size)
   have L1:=Lib.hid l1
   have L2:=Lib.hid l2
   clear l1 l2 f1 f2 hb H6 HS
   refine hK.out _ _ (⟨(FF.out.cell 1 0 rfl rfl).trans (by rw[X4.out]),FF.out.cell 1 1 rfl rfl⟩) (fun hHeld=>?_)
   clear hK
   try simp only[Act.put,Lw.s1,Lw.s2,Lw.s3]
   refine TillSt.tP 3 (fun _=>hHeld) ?_
   refine TillSt.tP 4 (fun _=>hHeld) ?_
   refine TillSt.tP 5 (fun _=>hHeld) ?_
   refine TillSt.nx [7] ?_
   refine NextSt.last rfl (by kernel_rfl) (fun K' hK=>?_) NextSt.nil
   obtain⟨s0,s1,s2,s3⟩:=FF.out.c4 0 rfl
   obtain⟨s4,s5,s6,s7⟩:=FF.out.f4 0 rfl
   clear hHeld
   go_simp
   clear s0 s1 s2 s3 s4 s5 s6 s7
   refine hK.out _ _ ?_
   clear hK
   try simp only[Act.put,Lw.s1,Lw.s2,Lw.s3]
   refine TillSt.tP 8 (fun q=>by cases q) ?_
   refine TillSt.done (by kernel_rfl) ?_ _
   have PQ:=FF.out.put 0 rfl (frV (decide (q.num<0)) aq kq cq false aq2 kq2 cq2) rfl
   have bb:=below_setCells bN NB.out (frV (decide (q.num<0)) aq kq cq false aq2 kq2 cq2) 0 _ BB.out
   have nf:=Lib.hid (show NewF _ _ _ q (.pointer (some ⟨bN,0,none⟩)) _ from⟨bN,⟨decide (q.num<0),aq,kq,cq,aq2,kq2,cq2⟩,rfl,Nat.le_trans LO.out NB.out,PQ,⟨rfl,L1.out.setCellsK G3.out 0 (frV (decide (q.num<0)) aq kq cq false aq2 kq2 cq2),L2.out.setCellsK G4.out 0 (frV (decide (q.num<0)) aq kq cq false aq2 kq2 cq2),fun b off e=>Nat.le_trans LO.out (G1.out b off e),fun b off e=>Nat.le_trans LO.out (G2.out b off e)⟩,⟨fun p b off e q=>G3.out p b off e (by cases q;rfl),fun p b off e q=>G4.out p b off e (by cases q;rfl)⟩,LB.out.trans (bb.mono LO.out)⟩)
   clear PQ bb FF BB BQ L1 L2 G1 G2 G3 G4 NB
   go_wp2_with fail
   go_meet
   case rel=>exact⟨nf.out,rfl⟩

 case rest =>
  obtain⟨⟨b,y,rfl,hbl,hF,hy,ho,hb⟩,rfl⟩:=hcut
  have hx':=HX.out.below hb
  obtain⟨a0,a1,a2,a3⟩:=hF.c4 0 rfl
  obtain⟨c0,c1,c2,c3⟩:=hF.c4 2 rfl
  have HA:=Lib.hid (AD.out _ _ _ (hx'.frac.mono (Nat.zero_le _)) (hy.frac.mono (Nat.zero_le _)))
  have FF:=Lib.hid hF
  clear hx' hy ho hb hF hbl AD HX H4 F2
  go_wp2_with fail
  clear a0 a1 a2 a3 c0 c1 c2 c3
  refine HA.out.mono ?_
  rintro e w6 ⟨V6,rfl,hV,hb⟩
  obtain⟨x6,rfl,hx6⟩:=hV.cells
  have F6:=FF.out.call hb
  have lo:=(FF.out.least 2 rfl).2
  obtain⟨c0,c1,c2,c3⟩:=F6.c4 2 rfl
  obtain⟨f0,f1,f2,f3⟩:=F6.f4 2 rfl
  have F7:=Lib.hid (F6.put 2 rfl (fcE x6) rfl)
  have HR:=Lib.hid (RD.out _ _ ((hx6.frac.sets w1.heap.size lo 0 (fcE x6)).mono (Nat.zero_le _)))
  clear hV hx6 hb F6 FF HA lo RD
  go_wp2_with fail
  refine HR.out.mono ?_
  rintro e w7 ⟨rfl,hb⟩
  have B:=Lib.hid (F7.out.call hb).below
  clear hb F7 HR
  go_wp2_with fail
  exact bodyPost_ret (results_tmp2 rfl _ _ _) rfl ⟨rfl,B.out⟩
end Wd
namespace Wd
open Go.RowKit Lw Tw

def alongE (m:Mo.Mv) (t:Int):Int×Int×Int :=
 if m.ra<0∨1296000000000≤m.ra∨¬ Mo.inR m then(0,0,8) else
 if 8640000000000<max m.t t-min m.t t then(0,0,2) else
 if (intE (Ls.roundR (mvR m.ra m.dra (t-m.t)))).2≠0 then(0,0,(intE (Ls.roundR (mvR m.ra m.dra (t-m.t)))).2) else
 if (intE (Ls.roundR (mvR m.dec m.ddec (t-m.t)))).2≠0 then(0,0,(intE (Ls.roundR (mvR m.dec m.ddec (t-m.t)))).2) else
 if (intE (Ls.roundR (mvR m.dec m.ddec (t-m.t)))).1 < -324000000000∨324000000000<(intE (Ls.roundR (mvR m.dec m.ddec (t-m.t)))).1 then(0,0,16) else
 ((intE (Ls.roundR (mvR m.ra m.dra (t-m.t)))).1 % 1296000000000,(intE (Ls.roundR (mvR m.dec m.ddec (t-m.t)))).1,0)
theorem intE_in (z:Int):-9223372036854775808≤(intE z).1∧(intE z).1≤9223372036854775807:=by
 rcases intE_cases z with⟨e,h⟩|⟨e,h⟩ <;> rw[e] <;> dsimp only <;> omega
theorem u64_diff {a b:Int} (ha:-9223372036854775808≤a∧a≤9223372036854775807) (hb:-9223372036854775808≤b∧b≤9223372036854775807) (h:a≤b):IntKind.u64.wrap (IntKind.u64.wrap b-IntKind.u64.wrap a)=b-a:=by
 simp only[IntKind.wrap_u64]
 omega
theorem along_any (s:ByteArray) (m:Mo.Mv) (t:Int) (w:World) (hm:-9223372036854775808≤m.t∧m.t≤9223372036854775807) (ht:-9223372036854775808≤t∧t≤9223372036854775807) (hd:-9223372036854775808≤m.dec∧m.dec<9223372036854775808) (hr:-9223372036854775808≤m.dra∧m.dra<9223372036854775808) (hq:-9223372036854775808≤m.ddec∧m.ddec<9223372036854775808) (ha:-9223372036854775808≤m.ra∧m.ra<9223372036854775808) :
  Calls Tryz.prog 21 #[atV s m, .int .i64 t] w fun e w'=>e = .returned (.tuple #[.int .i64 (alongE m t).1, .int .i64 (alongE m t).2.1, .int .i64 (alongE m t).2.2])∧Below w.heap.size w w':=by
 have F0:=Lib.hid ((Fr.start w).alloc (atC s m) 44)
 have IR:=Lib.hid (fun w'=>inrange_any s m w')
 by_cases h1:m.ra<0
 ·have em:alongE m t=(0,0,8):=by unfold alongE;rw[if_pos (Or.inl h1)]
  rw[em]
  obtain⟨mt,ra,dec,dra,ddec⟩:=m
  dsimp only at *
  clear em hm ht hd hr hq ha IR
  go_enter Tryz.func21,Tryz.ntmps21
  go_wp2_with fail
  refine bodyPost_ret (results_tmp3 rfl _ _ _) rfl ?_
  exact⟨rfl,F0.out.below⟩
 ·by_cases h2:1296000000000≤m.ra
  ·have em:alongE m t=(0,0,8):=by unfold alongE;rw[if_pos (Or.inr (Or.inl h2))]
   rw[em]
   obtain⟨mt,ra,dec,dra,ddec⟩:=m
   dsimp only at *
   clear em hm ht hd hr hq ha IR
   go_enter Tryz.func21,Tryz.ntmps21
   go_wp2_with fail
   refine bodyPost_ret (results_tmp3 rfl _ _ _) rfl ?_
   exact⟨rfl,F0.out.below⟩
  ·by_cases h3:Mo.inR m
   ·skip
    rw[decide_eq_true h3] at IR
    obtain⟨hi,hhi⟩:∃ z,z=max m.t t:=⟨_,rfl⟩
    obtain⟨lo,hlo⟩:∃ z,z=min m.t t:=⟨_,rfl⟩
    have b1:-9223372036854775808≤hi∧hi≤9223372036854775807:=by omega
    have b2:-9223372036854775808≤lo∧lo≤9223372036854775807:=by omega
    have wu:=u64_diff b2 b1 (by omega)
    have EM:alongE m t=if 8640000000000<hi-lo then(0,0,2) else
      if (intE (Ls.roundR (mvR m.ra m.dra (t-m.t)))).2≠0 then(0,0,(intE (Ls.roundR (mvR m.ra m.dra (t-m.t)))).2) else
      if (intE (Ls.roundR (mvR m.dec m.ddec (t-m.t)))).2≠0 then(0,0,(intE (Ls.roundR (mvR m.dec m.ddec (t-m.t)))).2) else
      if (intE (Ls.roundR (mvR m.dec m.ddec (t-m.t)))).1 < -324000000000∨324000000000<(intE (Ls.roundR (mvR m.dec m.ddec (t-m.t)))).1 then(0,0,16) else
      ((intE (Ls.roundR (mvR m.ra m.dra (t-m.t)))).1 % 1296000000000,(intE (Ls.roundR (mvR m.dec m.ddec (t-m.t)))).1,0):=by
     unfold alongE
     rw[if_neg (fun q=>by rcases q with q|q|q <;> first|exact h1 q|exact h2 q|exact q h3),hhi,hlo]
    by_cases far:8640000000000<hi-lo
    ·have em:alongE m t=(0,0,2):=by rw[EM,if_pos far]
     rw[em]
     obtain⟨mt,ra,dec,dra,ddec⟩:=m
     dsimp only at *
     clear EM em hm ht hd hr hq ha h3
     go_enter Tryz.func21,Tryz.ntmps21
     go_upto_region 3 with(go_at_call 50;refine(IR.out _).mono ?_;rintro e w1 ⟨rfl,hb⟩;have FF:=Lib.hid (F0.out.call hb);clear hb)
     clear F0 IR
     replace FF:=Lib.hid FF.out.drew
     refine TillSt.start (fun w'=>w'.cell? ⟨w.heap.size,1,none⟩=some (.int .i64 mt)) 9 (by kernel_rfl) (FF.out.cell 0 1 rfl rfl) (fun hHeld=>?_)
     generalize w1.drew=wd at *
     refine TillSt.tP 0 (fun _=>hHeld) ?_
     refine TillSt.tL 1 hHeld (hy:=Or.inl ⟨by rfl,by intro w hSw;skip;go_simp;try with_reducible rfl⟩) (h:=?_)
     refine TillSt.tP 2 (fun _=>hHeld) ?_
     refine TillSt.tP 3 (fun _=>hHeld) ?_
     refine TillSt.tP 4 (fun _=>hHeld) ?_
     refine TillSt.tL 5 hHeld (hy:=Or.inl ⟨by rfl,by intro w hSw;skip;go_simp;try with_reducible rfl⟩) (h:=?_)
     refine TillSt.tP 6 (fun _=>hHeld) ?_
     refine TillSt.tP 7 (fun _=>hHeld) ?_
     refine TillSt.tP 8 (fun _=>hHeld) ?_
     refine TillSt.nx [9] ?_
     refine NextSt.last rfl (by kernel_rfl) (fun K' hK=>?_) NextSt.nil
     clear hHeld
     go_simp
     refine hK.out _ _ ?_
     clear hK
     try simp only[Act.put,Lw.s1,Lw.s2,Lw.s3]
     refine TillSt.done (by kernel_rfl) ?_ _
     rw[← hhi,← hlo]
     clear hhi hlo
     go_wp2_with fail
     refine bodyPost_ret (results_tmp3 rfl _ _ _) rfl ?_
     exact⟨rfl,FF.out.below⟩
    ·have bt:-9223372036854775808≤t-m.t∧t-m.t<9223372036854775808:=by omega
     have wt:IntKind.i64.wrap (t-m.t)=t-m.t:=by rw[IntKind.wrap_i64];omega
     have M1:=Lib.hid (fun w'=>moved_any m.ra m.dra (t-m.t) w' ha hr bt)
     have M2:=Lib.hid (fun w'=>moved_any m.dec m.ddec (t-m.t) w' hd hq bt)
     have bi:=intE_in (Ls.roundR (mvR m.ra m.dra (t-m.t)))
     rw[if_neg far] at EM
     generalize Ls.roundR (mvR m.ra m.dra (t-m.t))=za at *
     generalize Ls.roundR (mvR m.dec m.ddec (t-m.t))=zd at *
     obtain⟨a1,e1⟩:∃ z,z=(intE za).1:=⟨_,rfl⟩
     obtain⟨a2,e2⟩:∃ z,z=(intE za).2:=⟨_,rfl⟩
     obtain⟨d1,e3⟩:∃ z,z=(intE zd).1:=⟨_,rfl⟩
     obtain⟨d2,e4⟩:∃ z,z=(intE zd).2:=⟨_,rfl⟩
     rw[← e1,← e2] at M1
     rw[← e3,← e4] at M2
     rw[← e1,← e2,← e3,← e4] at EM
     rw[← e1] at bi
     have NM:=Lib.hid (fun w'=>Turns.norm_any a1 w' bi.1 bi.2)
     obtain⟨R,hR⟩:∃ z,z=a1 % 1296000000000:=⟨_,rfl⟩
     rw[← hR] at NM EM
     obtain⟨q,hq'⟩:∃ q,q=alongE m t:=⟨_,rfl⟩
     rw[← hq'] at EM ⊢
     obtain⟨mt,ra,dec,dra,ddec⟩:=m
     dsimp only at *
     replace EM:=Lib.hid EM
     clear hm ht hd hr hq ha h3 e1 e2 e3 e4 bi hR hq' b1 b2
     go_enter Tryz.func21,Tryz.ntmps21
     go_upto_region 3 with(go_at_call 50;refine(IR.out _).mono ?_;rintro e w1 ⟨rfl,hb⟩;have FF:=Lib.hid (F0.out.call hb);clear hb)
     clear F0 IR
     replace FF:=Lib.hid FF.out.drew
     refine TillSt.start (fun w'=>w'.cell? ⟨w.heap.size,1,none⟩=some (.int .i64 mt)) 9 (by kernel_rfl) (FF.out.cell 0 1 rfl rfl) (fun hHeld=>?_)
     generalize w1.drew=wd at *
     refine TillSt.tP 0 (fun _=>hHeld) ?_
     refine TillSt.tL 1 hHeld (hy:=Or.inl ⟨by rfl,by intro w hSw;skip;go_simp;try with_reducible rfl⟩) (h:=?_)
     refine TillSt.tP 2 (fun _=>hHeld) ?_
     refine TillSt.tP 3 (fun _=>hHeld) ?_
     refine TillSt.tP 4 (fun _=>hHeld) ?_
     refine TillSt.tL 5 hHeld (hy:=Or.inl ⟨by rfl,by intro w hSw;skip;go_simp;try with_reducible rfl⟩) (h:=?_)
     refine TillSt.tP 6 (fun _=>hHeld) ?_
     refine TillSt.tP 7 (fun _=>hHeld) ?_
     refine TillSt.tP 8 (fun _=>hHeld) ?_
     refine TillSt.nx [9] ?_
     refine NextSt.last rfl (by kernel_rfl) (fun K' hK=>?_) NextSt.nil
     clear hHeld
     go_simp
     refine hK.out _ _ ?_
     clear hK
     try simp only[Act.put,Lw.s1,Lw.s2,Lw.s3]
     refine TillSt.done (by kernel_rfl) ?_ _
     rw[← hhi,← hlo]
     clear hhi hlo
     have c1:=FF.out.cell 0 1 rfl rfl
     have c2:=FF.out.cell 0 2 rfl rfl
     have c4:=FF.out.cell 0 4 rfl rfl
     go_wp2_with fail
     clear c1 c2 c4 wu
     refine(M1.out _).mono ?_
     rintro e w2 ⟨rfl,hb⟩
     replace FF:=Lib.hid (FF.out.call hb)
     clear hb M1
     by_cases h4:a2=0
     ·subst h4
      have c1:=FF.out.cell 0 1 rfl rfl
      have c3:=FF.out.cell 0 3 rfl rfl
      have c5:=FF.out.cell 0 5 rfl rfl
      go_wp2_with fail
      clear c1 c3 c5
      refine(M2.out _).mono ?_
      rintro e w3 ⟨rfl,hb⟩
      replace FF:=Lib.hid (FF.out.call hb)
      clear hb M2
      by_cases h5:d2=0
      ·subst h5
       by_cases h6:d1 < -324000000000
       ·have em:q=(0,0,16):=by rw[EM.out,if_neg (by simp),if_neg (by simp),if_pos (Or.inl h6)]
        subst em
        clear EM
        go_wp2_with fail
        refine bodyPost_ret (results_tmp3 rfl _ _ _) rfl ?_
        exact⟨rfl,FF.out.below⟩
       ·by_cases h7:324000000000<d1
        ·have em:q=(0,0,16):=by rw[EM.out,if_neg (by simp),if_neg (by simp),if_pos (Or.inr h7)]
         subst em
         clear EM
         go_wp2_with fail
         refine bodyPost_ret (results_tmp3 rfl _ _ _) rfl ?_
         exact⟨rfl,FF.out.below⟩
        ·have em:q=(R,d1,0):=by rw[EM.out,if_neg (by simp),if_neg (by simp),if_neg (fun x=>by rcases x with x|x <;> contradiction)]
         subst em
         clear EM
         go_wp2_with (go_at_call 49;refine(NM.out _).mono ?_;rintro e w' ⟨rfl,hw⟩;subst hw)
         refine bodyPost_ret (results_tmp3 rfl _ _ _) rfl ?_
         exact⟨rfl,FF.out.below⟩
      ·have h5b:(d2==0)=false:=by simpa using h5
       have em:q=(0,0,d2):=by rw[EM.out,if_neg (by simp),if_pos h5]
       subst em
       clear EM
       go_wp2_with fail
       refine bodyPost_ret (results_tmp3 rfl _ _ _) rfl ?_
       exact⟨rfl,FF.out.below⟩
     ·have h4b:(a2==0)=false:=by simpa using h4
      have em:q=(0,0,a2):=by rw[EM.out,if_pos h4]
      subst em
      clear EM
      go_wp2_with fail
      refine bodyPost_ret (results_tmp3 rfl _ _ _) rfl ?_
      exact⟨rfl,FF.out.below⟩
   ·have em:alongE m t=(0,0,8):=by unfold alongE;rw[if_pos (Or.inr (Or.inr h3))]
    rw[em]
    rw[decide_eq_false h3] at IR
    obtain⟨mt,ra,dec,dra,ddec⟩:=m
    dsimp only at *
    clear em hm ht hd hr hq ha h3
    go_enter Tryz.func21,Tryz.ntmps21
    go_wp2_with (go_at_call 50;refine(IR.out _).mono ?_;rintro e w' ⟨rfl,hb⟩;have B:=Lib.hid (F0.out.call hb).below;clear hb)
    refine bodyPost_ret (results_tmp3 rfl _ _ _) rfl ?_
    exact⟨rfl,B.out⟩
end Wd
namespace Tk
open Go.RowKit Lw Tw Wd Go.Proofs.YtdnogmanbdgadaaGreatDoor.Op Go.Proofs.YtdnogmanbdgadaaGreatDoor.Ow

def uO (ra dec dra ddec h:Int):Ob:=⟨⟨#[97]⟩,⟨#[70,53,49]⟩,848070069184000+h*3600000000,(ra+h*dra) % 1296000000000,dec+h*ddec,1,9999,32⟩
def uL (ra dec dra ddec:Int) (hs:List Int):List Ob:=hs.map (uO ra dec dra ddec)
theorem mul_bd {h d:Int} {M:Nat} (h0:0≤h) (h1:h≤24) (d0:-(M:Int)≤d) (d1:d≤(M:Int)):-(24*(M:Int))≤h*d∧h*d≤24*(M:Int):=by
 have e:=Int.natAbs_mul h d
 have:=Nat.mul_le_mul (show h.natAbs≤24 by omega) (show d.natAbs≤M by omega)
 generalize h*d=p at *
 rw[← e] at this
 omega
structure UB (ra dec dra ddec:Int) (hs:List Int):Prop where
 r0:0≤ra
 r1:ra<1296000000000
 d0:-300000000000≤dec
 d1:dec≤300000000000
 x0:-100000000≤dra
 x1:dra≤100000000
 y0:-100000000≤ddec
 y1:ddec≤100000000
 hn:hs.length≤9
 hh:∀ h∈hs,0≤h∧h≤24
theorem okO_G:okO (oG 848070069184000 1000):=by decide +kernel
theorem okO_H:okO (oG 848156469184000 1000):=by decide +kernel
theorem u_ok {ra dec dra ddec:Int} {hs:List Int} (B:UB ra dec dra ddec hs) {h:Int} (hm:h∈hs):okO (uO ra dec dra ddec h):=by
 obtain⟨h0,h1⟩:=B.hh h hm
 have y:=mul_bd (M:=100000000) h0 h1 B.y0 B.y1
 have d0:=B.d0
 have d1:=B.d1
 have k:=okO_G
 have k2:=okO_H
 have a:Mp.bgv (-10227) 1972 1≤848070069184000:=k.1.1
 have b:848156469184000<Mp.bgv 36525 2100 1:=k2.1.2
 refine⟨⟨Int.le_trans a ?_,Int.lt_of_le_of_lt ?_ b⟩,k.2.1,k.2.2.1,k.2.2.2.1,?_,?_,?_,?_,k.2.2.2.2.2.2.2.2.1,k.2.2.2.2.2.2.2.2.2.1,k.2.2.2.2.2.2.2.2.2.2⟩
 ·show (848070069184000:Int)≤848070069184000+h*3600000000
  omega
 ·show 848070069184000+h*3600000000≤(848156469184000:Int)
  omega
 ·show 0≤(ra+h*dra) % 1296000000000
  omega
 ·show (ra+h*dra) % 1296000000000<1296000000000
  omega
 ·show -324000000000≤dec+h*ddec
  omega
 ·show dec+h*ddec≤324000000000
  omega
theorem u_all {ra dec dra ddec:Int} {hs:List Int} (B:UB ra dec dra ddec hs):allT (uL ra dec dra ddec hs)=0 :=
 allT_zero (by rw[uL,List.length_map];have:=B.hn;omega) (fun o ho=>by
  obtain⟨h,hm,rfl⟩:=List.mem_map.1 ho
  exact u_ok B hm)
theorem round_half (N:Int):-1≤2*Ls.roundR ((N:Rat)/2)-N∧2*Ls.roundR ((N:Rat)/2)-N≤1:=by
 obtain⟨h1,h2⟩:=Ls.roundR_near ((N:Rat)/2)
 generalize Ls.roundR ((N:Rat)/2)=z at *
 constructor
 ·have:((N-2*z:Int):Rat)≤((1:Int):Rat):=by push_cast;grind
  have:=Rat.intCast_le_intCast.1 this
  omega
 ·have:((2*z-N:Int):Rat)≤((1:Int):Rat):=by push_cast;grind
  exact Rat.intCast_le_intCast.1 this
theorem fit_line {T V:List Int} {c d:Int} (hl:V.length=T.length) (h0:0<T.length) (hD:0<Ls.D (Mo.tF T) T.length) (n:Nat→Int) (ht:∀ i,i<T.length→Mo.tF T i=n i*1800000000) (hv:∀ i,i<T.length→2*Mo.tF V i=c+n i*d) (hd:-100000000≤d∧d≤100000000) (hc:-2000000000000≤c∧c≤2000000000000) :
  ∃ a,Mo.fitE T V=(a,24*d,0) ∧ -1≤2*a-c∧2*a-c≤1:=by
 obtain⟨e1,e0⟩:=Ls.line_x (Mo.tF T) (Mo.tF V) ((c:Rat)/2) ((d:Rat)/3600000000) T.length h0 hD (fun i hi=>by
  have h1:=ht i hi
  have h2:=hv i hi
  have h3:((2*Mo.tF V i:Int):Rat)=((c+n i*d:Int):Rat):=by rw[h2]
  rw[h1]
  push_cast at h3 ⊢
  grind)
 obtain⟨b1,b2⟩:=round_half c
 refine⟨Ls.roundR ((c:Rat)/2),?_,b1,b2⟩
 have e2:(d:Rat)/3600000000*86400000000=((24*d:Int):Rat):=by push_cast;grind
 unfold Mo.fitE
 dsimp only
 rw[e1,e0,e2,Ls.roundR_int]
 generalize Ls.roundR ((c:Rat)/2)=z at *
 rw[if_pos (by omega),if_pos (by omega)]
theorem dif_near {a b e:Int} (h:(a-b-e) % 1296000000000=0) (h0:-647999999999≤e) (h1:e≤647999999999):Pl.dif a b=e:=by
 unfold Pl.dif
 split <;> omega
structure UM (ra dec dra ddec h0 s:Int) (m:Mo.Mv):Prop where
 t:m.t=848070069184000+s*1800000000
 ra:∃ A,m.ra=((ra+h0*dra) % 1296000000000+A) % 1296000000000 ∧ -1≤2*A-(s-2*h0)*dra∧2*A-(s-2*h0)*dra≤1
 dec:-1≤2*m.dec-(2*dec+s*ddec)∧2*m.dec-(2*dec+s*ddec)≤1
 dra:m.dra=24*dra
 ddec:m.ddec=24*ddec
 s0:0≤s
 s1:s≤48
theorem u_mot {ra dec dra ddec:Int} {hs:List Int} (B:UB ra dec dra ddec hs) (hl:0<hs.length) :
  ((∀ h∈hs,h=hs.headD 0)→(motE (uL ra dec dra ddec hs)).2.2=22) ∧
  ((∃ h∈hs,h≠hs.headD 0) → ∃ m s,motE (uL ra dec dra ddec hs)=(⟨#[70,53,49]⟩,m,0)∧UM ra dec dra ddec (hs.headD 0) s m):=by
 obtain⟨T,hT⟩:∃ T,T=mtT (uL ra dec dra ddec hs) (uL ra dec dra ddec hs).length:=⟨_,rfl⟩
 obtain⟨R,hR⟩:∃ R,R=mtR (uL ra dec dra ddec hs) (uL ra dec dra ddec hs).length:=⟨_,rfl⟩
 obtain⟨D,hD⟩:∃ D,D=mtD (uL ra dec dra ddec hs) (uL ra dec dra ddec hs).length:=⟨_,rfl⟩
 have ul:(uL ra dec dra ddec hs).length=hs.length:=by rw[uL,List.length_map]
 have hd:(uL ra dec dra ddec hs).headD zeroO=uO ra dec dra ddec (hs.headD 0):=by
  cases hs with
  | nil=>cases hl
  | cons a l=>rfl
 have T1:T=hs.map fun h=>848070069184000+h*3600000000:=by rw[hT,mtT,List.take_length,uL,List.map_map];rfl
 have D1:D=hs.map fun h=>dec+h*ddec:=by rw[hD,mtD,List.take_length,uL,List.map_map];rfl
 have hm0:hs.headD 0∈hs:=by
  cases hs with
  | nil=>cases hl
  | cons a l=>exact List.mem_cons_self
 have R1:R=hs.map fun h=>h*dra-hs.headD 0*dra:=by
  rw[hR,mtR,List.take_length,hd,uL,List.map_map]
  refine List.map_congr_left fun h hm=>?_
  obtain⟨a0,a1⟩:=B.hh h hm
  obtain⟨b0,b1⟩:=B.hh _ hm0
  have p:=mul_bd (M:=100000000) a0 a1 B.x0 B.x1
  have q:=mul_bd (M:=100000000) b0 b1 B.x0 B.x1
  show Pl.dif ((ra+h*dra) % 1296000000000) ((ra+hs.headD 0*dra) % 1296000000000)=_
  generalize h*dra=P at *
  generalize hs.headD 0*dra=Q at *
  exact dif_near (by omega) (by omega) (by omega)
 have site:¬ ∃ o∈uL ra dec dra ddec hs,o.site≠((uL ra dec dra ddec hs).headD zeroO).site:=by
  rintro ⟨o,ho,h⟩
  obtain⟨z, -,rfl⟩:=List.mem_map.1 ho
  rw[hd] at h
  exact h rfl
 have lT:T.length=hs.length:=by rw[T1,List.length_map]
 have gT:∀ i (h:i<T.length),∃ z∈hs,T[i]=848070069184000+z*3600000000∧hs[i]? = some z:=fun i h=>by
  have hi:i<hs.length:=by omega
  refine⟨hs[i],List.getElem_mem hi,?_,List.getElem?_eq_getElem hi⟩
  simp only[T1,List.getElem_map]
 have hmE:motE (uL ra dec dra ddec hs)=match Mo.moved T R D with
   | .error e=>(ByteArray.empty,noMv,e)
   | .ok m=>(⟨#[70,53,49]⟩,{ m with ra:=((ra+hs.headD 0*dra) % 1296000000000+m.ra) % 1296000000000 },0):=by
  unfold motE
  rw[u_all B,if_neg (fun h=>h rfl),if_neg (by omega),if_neg site,← hT,← hR,← hD,hd]
  rfl
 obtain⟨i,hi,ei⟩:=Mo.lo_at (l:=T) (by omega)
 obtain⟨j,hj,ej⟩:=Mo.hi_at (l:=T) (by omega)
 obtain⟨zi,mi,fi, -⟩:=gT i hi
 obtain⟨zj,mj,fj, -⟩:=gT j hj
 rw[fi] at ei
 rw[fj] at ej
 obtain⟨i0,i1⟩:=B.hh zi mi
 obtain⟨j0,j1⟩:=B.hh zj mj
 constructor
 ·intro hall
  have e1:=hall zi mi
  have e2:=hall zj mj
  have:Mo.moved T R D = .error 22:=by
   unfold Mo.moved
   rw[if_neg (by omega),if_pos (by omega)]
  rw[hmE,this]
 ·rintro ⟨h,hm,hne⟩
  obtain⟨a,ha,ea⟩:=List.getElem_of_mem hm
  obtain⟨b,hb,eb⟩:=List.getElem_of_mem hm0
  have ta:T[a]'(by omega)=848070069184000+h*3600000000:=by simp only[T1,List.getElem_map,ea]
  have tb:T[b]'(by omega)=848070069184000+hs.headD 0*3600000000:=by simp only[T1,List.getElem_map,eb]
  have l1:=Mo.lo_le (l:=T) (i:=a) (by omega)
  have l2:=Mo.le_hi (l:=T) (i:=a) (by omega)
  have l3:=Mo.lo_le (l:=T) (i:=b) (by omega)
  have l4:=Mo.le_hi (l:=T) (i:=b) (by omega)
  rw[ta] at l1 l2
  rw[tb] at l3 l4
  have hne2:Mo.hi T≠Mo.lo T:=by omega
  have hsp:¬ 172800000000<Mo.hi T-Mo.lo T:=by omega
  obtain⟨f1, -, -⟩:=Mo.mv_facts (T:=T) (by omega) hne2 hsp
  obtain⟨s,hs'⟩:∃ s,s=zi+zj:=⟨_,rfl⟩
  have mid:Mo.midT T=848070069184000+s*1800000000:=by unfold Mo.midT;omega
  have tt:∀ k,k<(T.map (· - Mo.midT T)).length→Mo.tF (T.map (· - Mo.midT T)) k=(2*hs.getD k 0-s)*1800000000:=fun k hk=>by
   rw[List.length_map] at hk
   obtain⟨z, -,e1,e2⟩:=gT k hk
   rw[Mo.tF_map hk,e1,mid,List.getD_eq_getElem?_getD,e2]
   simp only[Option.getD_some]
   omega
  obtain⟨q0,q1⟩:=B.hh _ hm0
  have p0:=mul_bd (M:=100000000) q0 q1 B.x0 B.x1
  have pi:=mul_bd (M:=100000000) i0 i1 B.x0 B.x1
  have pj:=mul_bd (M:=100000000) j0 j1 B.x0 B.x1
  have yi:=mul_bd (M:=100000000) i0 i1 B.y0 B.y1
  have yj:=mul_bd (M:=100000000) j0 j1 B.y0 B.y1
  have sx:s*dra=zi*dra+zj*dra:=by rw[hs',Int.add_mul]
  have sy:s*ddec=zi*ddec+zj*ddec:=by rw[hs',Int.add_mul]
  have d0:=B.d0
  have d1:=B.d1
  obtain⟨A,eA,A0,A1⟩:=fit_line (T:=T.map (· - Mo.midT T)) (V:=R) (c:=(s-2*hs.headD 0)*dra) (d:=dra) (by rw[R1,List.length_map,List.length_map];omega) (by rw[List.length_map];omega) f1 (fun k=>2*hs.getD k 0-s) tt (fun k hk=>by
   rw[List.length_map] at hk
   obtain⟨z, -,e1,e2⟩:=gT k hk
   have e3:Mo.tF R k=z*dra-hs.headD 0*dra:=by
    rw[Mo.tF,R1,List.getD_eq_getElem?_getD,List.getElem?_map,e2];rfl
   rw[e3,List.getD_eq_getElem?_getD,e2]
   simp only[Option.getD_some]
   grind) ⟨B.x0,B.x1⟩ (by rw[Int.sub_mul,Int.mul_assoc,sx];omega)
  obtain⟨C,eC,C0,C1⟩:=fit_line (T:=T.map (· - Mo.midT T)) (V:=D) (c:=2*dec+s*ddec) (d:=ddec) (by rw[D1,List.length_map,List.length_map];omega) (by rw[List.length_map];omega) f1 (fun k=>2*hs.getD k 0-s) tt (fun k hk=>by
   rw[List.length_map] at hk
   obtain⟨z, -,e1,e2⟩:=gT k hk
   have e3:Mo.tF D k=dec+z*ddec:=by
    rw[Mo.tF,D1,List.getD_eq_getElem?_getD,List.getElem?_map,e2];rfl
   rw[e3,List.getD_eq_getElem?_getD,e2]
   simp only[Option.getD_some]
   grind) ⟨B.y0,B.y1⟩ (by rw[sy];omega)
  have x0:=B.x0
  have x1:=B.x1
  have y0:=B.y0
  have y1:=B.y1
  have hin:Mo.inR ⟨Mo.midT T,A,C,24*dra,24*ddec⟩:=by
   rw[sy] at C0 C1
   refine⟨?_,?_,?_,?_⟩
   ·show -324000000000≤C;omega
   ·show C≤324000000000;omega
   ·show max (24*dra) (24*ddec)≤72000000000;omega
   ·show -72000000000≤min (24*dra) (24*ddec);omega
  have hmv:Mo.moved T R D = .ok ⟨Mo.midT T,A,C,24*dra,24*ddec⟩:=by
   rw[Mo.moved_eq hsp hne2 eA eC,if_neg (fun h=>h rfl),if_neg (fun h=>h.elim (fun h=>h rfl) (fun h=>h hin))]
  refine⟨⟨Mo.midT T,((ra+hs.headD 0*dra) % 1296000000000+A) % 1296000000000,C,24*dra,24*ddec⟩,s,?_,?_⟩
  ·rw[hmE,hmv]
  ·exact⟨mid,⟨A,rfl,A0,A1⟩,⟨C0,C1⟩,rfl,rfl,by omega,by omega⟩
theorem mv_half {a r h s:Int}:mvR a (24*r) (848070069184000+h*3600000000-(848070069184000+s*1800000000))=((2*a+(2*h-s)*r:Int):Rat)/2:=by
 unfold mvR
 rw[show 24*r*(848070069184000+h*3600000000-(848070069184000+s*1800000000))=(2*h-s)*r*43200000000 by grind,Rat.mkRat_eq_div]
 push_cast
 grind
theorem along_ok {m:Mo.Mv} {t G K:Int} (h1:¬ (m.ra<0∨1296000000000≤m.ra∨¬ Mo.inR m)) (h2:¬ 8640000000000<max m.t t-min m.t t) (hG:intE (Ls.roundR (mvR m.ra m.dra (t-m.t)))=(G,0)) (hK:intE (Ls.roundR (mvR m.dec m.ddec (t-m.t)))=(K,0)) (h3:¬ (K < -324000000000∨324000000000<K)) :
  alongE m t=(G % 1296000000000,K,0):=by
 unfold alongE
 rw[if_neg h1,if_neg h2]
 simp only[hG,hK]
 rw[if_neg (fun h=>h rfl),if_neg (fun h=>h rfl),if_neg h3]
theorem u_along {ra dec dra ddec:Int} {hs:List Int} (B:UB ra dec dra ddec hs) {s:Int} {m:Mo.Mv} (M:UM ra dec dra ddec (hs.headD 0) s m) {h:Int} (hm0:hs.headD 0∈hs) (hm:h∈hs) :
  ∃ a d,alongE m (uO ra dec dra ddec h).t=(a,d,0)∧(-1≤Pl.dif a (uO ra dec dra ddec h).ra∧Pl.dif a (uO ra dec dra ddec h).ra≤1)∧(-1≤d-(uO ra dec dra ddec h).dec∧d-(uO ra dec dra ddec h).dec≤1)∧(0≤a∧a<1296000000000):=by
 obtain⟨mt,mra,mdec,mdra,mddec⟩:=m
 obtain⟨e1,⟨A,e2,A0,A1⟩,⟨C0,C1⟩,e3,e4,s0,s1⟩:=M
 dsimp only at e1 e2 e3 e4 C0 C1
 subst e1 e3 e4
 obtain⟨h0,h1⟩:=B.hh h hm
 obtain⟨q0,q1⟩:=B.hh _ hm0
 have p:=mul_bd (M:=100000000) h0 h1 B.x0 B.x1
 have q:=mul_bd (M:=100000000) q0 q1 B.x0 B.x1
 have y:=mul_bd (M:=100000000) h0 h1 B.y0 B.y1
 have d0:=B.d0
 have d1:=B.d1
 have x0:=B.x0
 have x1:=B.x1
 have y0:=B.y0
 have y1:=B.y1
 have g1:=round_half (2*mra+(2*h-s)*dra)
 have g2:=round_half (2*mdec+(2*h-s)*ddec)
 have sx:-4800000000≤s*dra∧s*dra≤4800000000:=by
  have e:=Int.natAbs_mul s dra
  have:=Nat.mul_le_mul (show s.natAbs≤48 by omega) (show dra.natAbs≤100000000 by omega)
  generalize s*dra=z at *
  omega
 have sy:-4800000000≤s*ddec∧s*ddec≤4800000000:=by
  have e:=Int.natAbs_mul s ddec
  have:=Nat.mul_le_mul (show s.natAbs≤48 by omega) (show ddec.natAbs≤100000000 by omega)
  generalize s*ddec=z at *
  omega
 obtain⟨G,hG⟩:∃ G,G=Ls.roundR (((2*mra+(2*h-s)*dra:Int):Rat)/2):=⟨_,rfl⟩
 obtain⟨K,hK⟩:∃ K,K=Ls.roundR (((2*mdec+(2*h-s)*ddec:Int):Rat)/2):=⟨_,rfl⟩
 have IG:intE (Ls.roundR (mvR mra (24*dra) ((uO ra dec dra ddec h).t-(848070069184000+s*1800000000))))=intE G:=by
  rw[hG,← mv_half];rfl
 have IK:intE (Ls.roundR (mvR mdec (24*ddec) ((uO ra dec dra ddec h).t-(848070069184000+s*1800000000))))=intE K:=by
  rw[hK,← mv_half];rfl
 rw[← hG] at g1
 rw[← hK] at g2
 clear hG hK
 have er:(uO ra dec dra ddec h).ra=(ra+h*dra) % 1296000000000:=rfl
 have ed:(uO ra dec dra ddec h).dec=dec+h*ddec:=rfl
 have et:(uO ra dec dra ddec h).t=848070069184000+h*3600000000:=rfl
 rw[er,ed]
 rw[Int.sub_mul,Int.mul_assoc] at g1 g2 A0 A1
 generalize hs.headD 0*dra=Q at *
 generalize h*dra=P at *
 generalize h*ddec=Y at *
 generalize s*dra=SX at *
 generalize s*ddec=SY at *
 rw[show intE G=(G,0) from if_pos (by omega)] at IG
 rw[show intE K=(K,0) from if_pos (by omega)] at IK
 refine⟨_,_,along_ok (G:=G) (K:=K) ?_ ?_ IG IK (by omega),?_,?_,by omega⟩
 ·dsimp only
  rintro (h|h|h)
  ·omega
  ·omega
  ·refine h ⟨?_,?_,?_,?_⟩
   ·show -324000000000≤mdec;omega
   ·show mdec≤324000000000;omega
   ·show max (24*dra) (24*ddec)≤72000000000;omega
   ·show -72000000000≤min (24*dra) (24*ddec);omega
 ·dsimp only
  rw[et]
  omega
 ·obtain⟨e,he⟩:∃ e,e=G-mra+A-(P-Q):=⟨_,rfl⟩
  rw[dif_near (e:=e) (by omega) (by omega) (by omega)]
  omega
 ·omega
end Tk
namespace Tw
open Go.RowKit Lw Go.Proofs.YtdnogmanbdgadaaGreatDoor.Op Go.Proofs.YtdnogmanbdgadaaGreatDoor.Ow Go.ChangeShapes Go.WideShapes Go.Deep

def InA (w:World) (x:Option Addr) (l:List Int):Prop:=l = [] ∨ ∃ b off,x=some ⟨b,off,none⟩∧b<w.heap.size ∧ ∀ i (h:i<l.length),w.cell? ⟨b,off+i,none⟩=some (.int .i64 (l[i]'h))
theorem InA.below {w w':World} {x:Option Addr} {l:List Int} (h:InA w x l) (hb:Below w.heap.size w w'):InA w' x l:=by
 rcases h with h|⟨b,off,e,lt,hc⟩
 ·exact Or.inl h
 ·exact Or.inr ⟨b,off,e,Nat.lt_of_lt_of_le lt hb.size,fun i hi=>(hb.cell lt).trans (hc i hi)⟩
theorem InA.get {w:World} {x:Option Addr} {l:List Int} (h:InA w x l) {i:Nat} (hi:i<l.length):∃ b off,x=some ⟨b,off,none⟩∧w.cell? ⟨b,off+i,none⟩=some (.int .i64 (l[i]'hi)):=by
 rcases h with h|⟨b,off,e, -,hc⟩
 ·subst h;cases hi
 ·exact⟨b,off,e,hc i hi⟩
section
variable {H : Type} {enc : TypeId × Value → H} {w : World} {base : Nat} {spare : Nat → Bool} {held : Bool}
theorem cells_lt1 {a:Addr} {n:Nat} {cs:List Value} (hn:0<n) (h:w.cells? base a n=some cs):a.block<w.heap.size∧a.spot=none:=by
 obtain⟨_,hl,hat⟩:=World.cells?_some h
 have h0:=hat 0 hn
 rw[List.getElem?_eq_getElem (by omega)] at h0
 have e:a.add 0=a:=by simp[Addr.add]
 rw[e] at h0
 exact block_lt h0
theorem open_ones {α:Type} [Inhabited α] {t e:TypeId} {fuel:Nat} {x:Option Addr} {len cap:Nat} {y:DataW H×List MemPlace} (hS:Tryz.prog.cellsOf e=1) (ht:Tryz.prog.underlying t=some (.slice e)) (vl:α→Value) (Pr:α→Prop)
  (elem:∀ m cs z,DataW.trod enc Tryz.prog w base spare held m e cs=some z → ∃ o,cs = [vl o]∧Pr o)
  (h:DataW.trod enc Tryz.prog w base spare held fuel t [.slice x len cap]=some y) :
  len≤9223372036854775807 ∧ ∃ l:List α,l.length=len∧(∀ o∈l,Pr o)∧(l = [] ∨ ∃ b off,x=some ⟨b,off,none⟩∧b<w.heap.size ∧ ∀ i (h:i<l.length),w.cell? ⟨b,off+i,none⟩=some (vl (l[i]'h))):=by
 rcases open_slice ht h with⟨hc,_⟩|⟨a,ln,cp,m,n,D,Pl,hcs,hb,hl,hmx,hmm,hx,hi⟩
 ·have:=one_of hc
  cases this
  exact⟨by omega,[],rfl,fun _ h=>(by cases h),Or.inl rfl⟩
 ·have:=one_of hcs
  cases this
  refine⟨by unfold maxLen at hmx;omega,?_⟩
  rw[hS] at hi
  by_cases h0:len=0
  ·subst h0
   exact⟨[],rfl,fun _ h=>(by cases h),Or.inl rfl⟩
  ·have hml:len≤m:=by rw[hmm];split <;> omega
   obtain⟨b,off,spot⟩:=a
   obtain⟨cs0,hc0,ht0⟩:=hi 0 (by omega)
   have lt0:=cells_lt1 (by omega) hc0
   have hsp:spot=none:=by
    have:=lt0.2
    simpa [Addr.add] using this
   have hlt:b<w.heap.size:=by
    have:=lt0.1
    simpa [Addr.add] using this
   subst hsp
   have key:∀ k,∃ o:α,k<len→Pr o∧w.cell? ⟨b,off+k,none⟩=some (vl o):=fun k=>by
    by_cases hk:k<len
    ·obtain⟨cs',hc',ht'⟩:=hi k (by omega)
     rw[add_none,Nat.mul_one] at hc'
     obtain⟨o,e,ho⟩:=elem n cs' _ ht'
     obtain⟨_,hl,hat⟩:=World.cells?_some hc'
     have:=hat 0 (by omega)
     rw[add_none,e] at this
     exact⟨o,fun _=>⟨ho,this⟩⟩
    ·exact⟨default,fun g=>absurd g hk⟩
   obtain⟨R,hR⟩:=Classical.axiomOfChoice key
   refine⟨(List.range len).map R,by simp,fun o ho=>?_,Or.inr ⟨b,off,rfl,hlt,fun i hi=>?_⟩⟩
   ·obtain⟨i,hi,rfl⟩:=List.mem_map.1 ho
    exact(hR i (List.mem_range.1 hi)).1
   ·have hi':i<len:=by simpa using hi
    rw[List.getElem_map,List.getElem_range]
    exact(hR i hi').2
end
theorem i64_list {H:Type} {enc:TypeId×Value→H} {w:World} {base:Nat} {spare:Nat→Bool} {held:Bool} {x:Option Addr} {len cap:Nat} {d:DataW H} {p:List MemPlace} (h:DataW.Trod enc Tryz.prog w base spare held 50 (.slice x len cap) d p) :
  len≤9223372036854775807 ∧ ∃ l:List Int,l.length=len∧(∀ z∈l, -9223372036854775808≤z∧z≤9223372036854775807)∧InA w x l:=by
 obtain⟨fuel,h⟩:=h
 obtain⟨hm,l,hl,hp,hx⟩:=open_ones (α:=Int) (by kernel_rfl) Tryz.underlying50 (fun z=>.int .i64 z) (fun z=>-9223372036854775808≤z∧z≤9223372036854775807) (fun m cs z h2=>by
  obtain⟨s,e,_,hw⟩:=DataW.trod_int Tryz.underlying2 h2
  exact⟨s,e,bounds_i64 hw⟩) h
 exact⟨hm,l,hl,hp,hx⟩
end Tw
namespace Tw
open Go.RowKit Lw Tk Wd Vw Go.Proofs.YtdnogmanbdgadaaGreatDoor.Op Go.Proofs.YtdnogmanbdgadaaGreatDoor.Ow

theorem uni_out (ra dec dra ddec:Int) (y:Option Addr) (cap:Nat) (hs:List Int) (w:World) (hE:ES w) (hD:DB w) (hm:hs.length≤9223372036854775807)
  (h:ra<0∨1296000000000≤ra∨dec < -300000000000∨300000000000<dec∨dra < -100000000∨100000000<dra∨ddec < -100000000∨100000000<ddec∨9<hs.length):Calls Tryz.prog 6 #[.int .i64 ra, .int .i64 dec, .int .i64 dra, .int .i64 ddec, .slice y hs.length cap] w fun e w'=>e = .returned (.bool true)∧Below w.heap.size w w':=by
 have F0:=Lib.hid (Fr.start w)
 have AL:=Lib.hid (lalive_any w hE hD)
 have HG:=Lib.hid h
 clear hE hD h
 by_cases c0:ra<0
 ·clear HG
  go_enter Tryz.func6,Tryz.ntmps6
  go_wp2_with (go_at_call 8;refine AL.out.mono ?_;rintro e w1 ⟨rfl,k1⟩;have F1:=Lib.hid (F0.out.call k1);clear k1)
  exact bodyPost_ret (results_tmp rfl _ _ _) rfl ⟨rfl,F1.out.below⟩
 by_cases c1:1296000000000≤ra
 ·clear HG
  go_enter Tryz.func6,Tryz.ntmps6
  go_wp2_with (go_at_call 8;refine AL.out.mono ?_;rintro e w1 ⟨rfl,k1⟩;have F1:=Lib.hid (F0.out.call k1);clear k1)
  exact bodyPost_ret (results_tmp rfl _ _ _) rfl ⟨rfl,F1.out.below⟩
 by_cases c2:dec < -300000000000
 ·clear HG
  go_enter Tryz.func6,Tryz.ntmps6
  go_wp2_with (go_at_call 8;refine AL.out.mono ?_;rintro e w1 ⟨rfl,k1⟩;have F1:=Lib.hid (F0.out.call k1);clear k1)
  exact bodyPost_ret (results_tmp rfl _ _ _) rfl ⟨rfl,F1.out.below⟩
 by_cases c3:300000000000<dec
 ·clear HG
  go_enter Tryz.func6,Tryz.ntmps6
  go_wp2_with (go_at_call 8;refine AL.out.mono ?_;rintro e w1 ⟨rfl,k1⟩;have F1:=Lib.hid (F0.out.call k1);clear k1)
  exact bodyPost_ret (results_tmp rfl _ _ _) rfl ⟨rfl,F1.out.below⟩
 by_cases c4:dra < -100000000
 ·clear HG
  go_enter Tryz.func6,Tryz.ntmps6
  go_wp2_with (go_at_call 8;refine AL.out.mono ?_;rintro e w1 ⟨rfl,k1⟩;have F1:=Lib.hid (F0.out.call k1);clear k1)
  exact bodyPost_ret (results_tmp rfl _ _ _) rfl ⟨rfl,F1.out.below⟩
 by_cases c5:100000000<dra
 ·clear HG
  go_enter Tryz.func6,Tryz.ntmps6
  go_wp2_with (go_at_call 8;refine AL.out.mono ?_;rintro e w1 ⟨rfl,k1⟩;have F1:=Lib.hid (F0.out.call k1);clear k1)
  exact bodyPost_ret (results_tmp rfl _ _ _) rfl ⟨rfl,F1.out.below⟩
 by_cases c6:ddec < -100000000
 ·clear HG
  go_enter Tryz.func6,Tryz.ntmps6
  go_wp2_with (go_at_call 8;refine AL.out.mono ?_;rintro e w1 ⟨rfl,k1⟩;have F1:=Lib.hid (F0.out.call k1);clear k1)
  exact bodyPost_ret (results_tmp rfl _ _ _) rfl ⟨rfl,F1.out.below⟩
 by_cases c7:100000000<ddec
 ·clear HG
  go_enter Tryz.func6,Tryz.ntmps6
  go_wp2_with (go_at_call 8;refine AL.out.mono ?_;rintro e w1 ⟨rfl,k1⟩;have F1:=Lib.hid (F0.out.call k1);clear k1)
  exact bodyPost_ret (results_tmp rfl _ _ _) rfl ⟨rfl,F1.out.below⟩
 have c8:9<hs.length:=by
  have h:=HG.out
  omega
 have i8:(9:Int)<(hs.length:Int):=by omega
 clear HG
 go_enter Tryz.func6,Tryz.ntmps6
 go_wp2_with (go_at_call 8;refine AL.out.mono ?_;rintro e w1 ⟨rfl,k1⟩;have F1:=Lib.hid (F0.out.call k1);clear k1)
 exact bodyPost_ret (results_tmp rfl _ _ _) rfl ⟨rfl,F1.out.below⟩
theorem uL_snoc (ra dec dra ddec:Int) {hs:List Int} {m:Nat} (h:m<hs.length):uL ra dec dra ddec (hs.take (m+1))=uL ra dec dra ddec (hs.take m) ++ [uO ra dec dra ddec (hs[m]'h)]:=by
 unfold uL
 rw[List.take_succ_eq_append_getElem h,List.map_append]
 rfl
def fst0 (hs:List Int):Int:=hs.headD 0
def DF (a:Int) (l:List Int):Prop:=∃ x∈l,x≠a
theorem many_snoc {hs:List Int} {m:Nat} (h:m<hs.length) (a:Int):DF a (hs.take (m+1))↔(DF a (hs.take m)∨hs[m]'h≠a):=by
 unfold DF
 rw[List.take_succ_eq_append_getElem h]
 constructor
 ·rintro ⟨x,hx,hn⟩
  rcases List.mem_append.1 hx with q|q
  ·exact Or.inl ⟨x,q,hn⟩
  ·rw[List.mem_singleton.1 q] at hn
   exact Or.inr hn
 ·rintro (⟨x,hx,hn⟩|hn)
  ·exact⟨x,List.mem_append_left _ hx,hn⟩
  ·exact⟨_,List.mem_append_right _ (List.mem_singleton.2 rfl),hn⟩
theorem mul_bd2 {s d:Int} (h0:0≤s) (h1:s≤48) (d0:-100000000≤d) (d1:d≤100000000):-4800000000≤s*d∧s*d≤4800000000:=by
 have e:=Int.natAbs_mul s d
 have:=Nat.mul_le_mul (show s.natAbs≤48 by omega) (show d.natAbs≤100000000 by omega)
 generalize s*d=z at *
 omega
theorem headD_mem {hs:List Int} (h:0<hs.length):hs.headD 0∈hs:=by
 cases hs with
 | nil=>cases h
 | cons a l=>exact List.mem_cons_self
theorem mot_nil {ra dec dra ddec:Int}:(motE (uL ra dec dra ddec [])).2.2=22:=by
 have e:allT (uL ra dec dra ddec [])=0:=allT_zero (Nat.zero_le _) (fun _ h=>by cases h)
 unfold motE
 rw[e,if_neg (fun h=>h rfl),if_pos (show (uL ra dec dra ddec []).length=0 from rfl)]
theorem u_bd {ra dec dra ddec:Int} {hs:List Int} (B:UB ra dec dra ddec hs):OBs (uL ra dec dra ddec hs):=fun i h=>by
 have:∀ o∈uL ra dec dra ddec hs,OB o:=fun o ho=>by
  obtain⟨h,hm,rfl⟩:=List.mem_map.1 ho
  obtain⟨h0,h1⟩:=B.hh h hm
  refine⟨?_,?_,by simp[uO],by simp[uO],by show (1:Nat)≤9223372036854775807;omega,by show (3:Nat)≤9223372036854775807;omega⟩
  ·show -9223372036854775808≤848070069184000+h*3600000000;omega
  ·show 848070069184000+h*3600000000≤9223372036854775807;omega
 exact this _ (List.getElem_mem h)
theorem time_G {w w':World} {b:Nat} (lt:b<w.heap.size) (h:ObsAt w b 0 (lG 0)) (hb:Below w.heap.size w w'):w'.rangeAt b 0 (obsC (oG 848070069184000 1000)):=(h.below hb lt) 0 (by decide)
theorem uni_main (ra dec dra ddec:Int) (y:Option Addr) (cap:Nat) (hs:List Int) (w:World) (hE:ES w) (hD:DB w) (hy:InA w y hs) (hm:hs.length≤9)
  (r0:0≤ra) (r1:ra<1296000000000) (d0:-300000000000≤dec) (d1:dec≤300000000000) (x0:-100000000≤dra) (x1:dra≤100000000) (y0:-100000000≤ddec) (y1:ddec≤100000000):Calls Tryz.prog 6 #[.int .i64 ra, .int .i64 dec, .int .i64 dra, .int .i64 ddec, .slice y hs.length cap] w fun e w'=>e = .returned (.bool true)∧Below w.heap.size w w':=by
 have F0:=Lib.hid (Fr.start w)
 have AL:=Lib.hid (lalive_any w hE hD)
 have GV:=Lib.hid given_any
 have HE:=Lib.hid (fun w' (h:Below w.heap.size w w')=>hE.below h)
 have HY:=Lib.hid (fun w' (h:Below w.heap.size w w')=>hy.below h)
 have UBD:=Lib.hid (fun (hh:∀ h∈hs,0≤h∧h≤24)=>(⟨r0,r1,d0,d1,x0,x1,y0,y1,hm,hh⟩:UB ra dec dra ddec hs))
 have e0:¬ ra<0:=by omega
 have e1:¬ 1296000000000≤ra:=by omega
 have e2:¬ dec < -300000000000:=by omega
 have e3:¬ 300000000000<dec:=by omega
 have e4:¬ dra < -100000000:=by omega
 have e5:¬ 100000000<dra:=by omega
 have e6:¬ ddec < -100000000:=by omega
 have e7:¬ 100000000<ddec:=by omega
 have e8:¬ (9:Int)<(hs.length:Int):=by omega
 have e8n:¬ 9<hs.length:=by omega
 clear hE hD hy
 go_enter Tryz.func6,Tryz.ntmps6
 go_wp2_with (first|(go_at_call 8;refine AL.out.mono ?_;rintro e w1 ⟨rfl,k1⟩;have F1:=Lib.hid (F0.out.call k1);clear k1)|(go_at_call 20;refine(GV.out 0 w1).mono ?_;rintro e w2 ⟨b1,lo1,rfl,o1,k2,lt1⟩;have F2:=Lib.hid (F1.out.call k2);have T2:=time_G lt1 o1 (Below.refl _ _);have c2:w2.cell? ⟨b1,2,none⟩=some (.int .i64 848070069184000):=T2 2 _ rfl;clear k2 lo1 o1 lt1 T2))
 clear c2 F0 F1 AL e0 e1 e2 e3 e4 e5 e6 e7 e8 e8n
 have OW0:=Lib.hid (OwnO.nil w2 w2.heap.size (Nat.le_refl _))
 go_loopw [13,14,15,16] (fun v mn z _ wr=>∃ (m:Nat) (mb:Bool),mn = .bool mb∧z = .int .i64 (m:Int)∧m≤hs.length∧Hid (mb=true↔DF (fst0 hs) (hs.take m))∧Hid (OwnO wr w2.heap.size v (uL ra dec dra ddec (hs.take m)))∧Hid (∀ x∈hs.take m,0≤x∧x≤24)∧Hid (Below w2.heap.size w2 wr)) (fun _ _ z _ _=>hs.length-(intOf z).toNat)
 case atStart=>exact⟨0,false,rfl,rfl,by omega,Lib.hid (by simp[DF]),OW0,Lib.hid (by simp),Lib.hid (Below.refl _ _)⟩
 case round =>
  clear OW0
  obtain⟨m,mb,rfl,rfl,hmm,HM,OW,HH,BB⟩:=hrel
  by_cases hml:m<hs.length
  ·have m1:(m:Int)<(hs.length:Int):=by omega
   have m0:(0:Int)≤(m:Int):=by omega
   have m2:(0:Int)<(hs.length:Int):=by omega
   have hm1:IntKind.i64.wrap ((m:Int)+1)=((m+1:Nat):Int):=by rw[IntKind.wrap_i64];omega
   obtain⟨b0,off,hyy,t0⟩:=(HY.out _ (below_then F2.out.below BB.out)).get hml
   have HC:=Lib.hid (fun wx (hb:Below w.heap.size w wx)=>(show wx.cell? ⟨b0,off+m,none⟩=some (.int .i64 hs[m]) from by
    obtain⟨b',off',e,c⟩:=(HY.out _ hb).get hml
    rw[hyy] at e
    cases e
    exact c))
   have HZ:=Lib.hid (fun wx (hb:Below w.heap.size w wx)=>(show wx.cell? ⟨b0,off,none⟩=some (.int .i64 (fst0 hs)) from by
    obtain⟨b',off',e,c⟩:=(HY.out _ hb).get (show 0<hs.length by omega)
    rw[hyy] at e
    cases e
    rw[Nat.add_zero] at c
    rw[c]
    cases hs with
    | nil=>simp at hml
    | cons a l=>rfl))
   subst hyy
   have US:=Lib.hid (uL_snoc ra dec dra ddec hml)
   have MS:=Lib.hid (many_snoc hml (fst0 hs))
   have TS:Hid (hs.take (m+1)=hs.take m ++ [hs[m]]):=Lib.hid (List.take_succ_eq_append_getElem hml)
   have zl:(uL ra dec dra ddec (hs.take m)).length≤1000000:=by
    rw[uL,List.length_map,List.length_take];omega
   generalize hs[m]=h at *
   by_cases g0:h<0
   ·have B9:=Lib.hid (below_then F2.out.below BB.out)
    clear US MS TS zl HC HZ HH OW
    go_wp2_with fail
    exact bodyPost_ret (results_tmp rfl _ _ _) rfl ⟨rfl,B9.out⟩
   by_cases g1:24<h
   ·have B9:=Lib.hid (below_then F2.out.below BB.out)
    clear US MS TS zl HC HZ HH OW
    go_wp2_with fail
    exact bodyPost_ret (results_tmp rfl _ _ _) rfl ⟨rfl,B9.out⟩
   have p:=mul_bd (M:=100000000) (show 0≤h by omega) (by omega) x0 x1
   have q:=mul_bd (M:=100000000) (show 0≤h by omega) (by omega) y0 y1
   have w1':IntKind.i64.wrap (h*3600000000)=h*3600000000:=by rw[IntKind.wrap_i64];omega
   have w2':IntKind.i64.wrap (848070069184000+h*3600000000)=848070069184000+h*3600000000:=by rw[IntKind.wrap_i64];omega
   have w3':IntKind.i64.wrap (h*dra)=h*dra:=by rw[IntKind.wrap_i64];omega
   have w4':IntKind.i64.wrap (ra+h*dra)=ra+h*dra:=by rw[IntKind.wrap_i64];omega
   have w5':IntKind.i64.wrap (h*ddec)=h*ddec:=by rw[IntKind.wrap_i64];omega
   have w6':IntKind.i64.wrap (dec+h*ddec)=dec+h*ddec:=by rw[IntKind.wrap_i64];omega
   have NM:=Lib.hid (fun w'=>Turns.rnorm_any (ra+h*dra) w' (by omega) (by omega))
   have HN:=Lib.hid (show ∀ x∈hs.take (m+1),0≤x∧x≤24 from fun x hx=>by
    rw[TS.out] at hx
    rcases List.mem_append.1 hx with k|k
    ·exact HH.out x k
    ·rw[List.mem_singleton.1 k];omega)
   clear p q HH TS
   go_wp2_with (first|(go_at_call 20;refine(GV.out 0 wr).mono ?_;rintro e w3 ⟨b3,lo3,rfl,o3,k3,lt3⟩;have F:=Lib.hid (((Fr.start wr).call k3).alloc (obsC (oG 848070069184000 1000)) 31);have T3:=Lib.hid (time_G lt3 o3 (Below.refl _ _));clear lo3 o3 lt3 k3)|(refine wpList_load_mid rfl _ (.tmp 90) rfl b3 0 rfl (obsC (oG 848070069184000 1000)) _ T3.out Tryz.underlying31 rfl info8 ?_))
   obtain⟨bb,hbb⟩:∃ b,b=w3.heap.size:=⟨_,rfl⟩
   have CH:=Lib.hid (fun wx (hb:Below wr.heap.size wr wx)=>HC.out wx (below_then (below_then F2.out.below BB.out) hb))
   generalize World.alloc w3 _=w4 at *
   go_upto_region 13 with fail
   refine wp_region_held_drew (S:=fun wx=>wx.cell? ⟨b0,off+m,none⟩=some (.int .i64 h)) (by kernel_rfl) (CH.out _ F.out.drew.below) (fun hHeld=>?_)
   replace F:=Lib.hid F.out.drew
   generalize World.drew _=w4d at *
   refine Lw.tK 0 hHeld (h:=?_)
   refine Lw.tK 1 hHeld (h:=?_)
   refine Lw.tK 2 hHeld (h:=?_)
   refine Lw.tK 3 hHeld (h:=?_)
   refine Lw.tK 4 hHeld (hy:=Or.inl ⟨by rfl,by intro w hSw;have c0:=hSw;clear hSw;go_simp;try with_reducible rfl⟩) (h:=?_)
   refine Lw.tK 5 hHeld (h:=?_)
   refine Lw.tK 6 hHeld (h:=?_)
   refine Lw.tK 7 hHeld (h:=?_)
   refine Lw.tK 8 hHeld (h:=?_)
   refine Lw.tK 9 hHeld (h:=?_)
   refine Lw.tK 10 hHeld (h:=?_)
   refine Lw.tK 11 hHeld (hy:=Or.inl ⟨by rfl,by intro w hSw;have c0:=hSw;clear hSw;go_simp;try with_reducible rfl⟩) (h:=?_)
   refine Lw.tK 12 hHeld (h:=?_)
   refine Lw.tK 13 hHeld (h:=?_)
   refine Lw.tK 14 hHeld (h:=?_)
   refine Lw.tK 16 hHeld (h:=?_)
   refine Lw.tK 17 hHeld (h:=?_)
   refine Lw.tK 18 hHeld (h:=?_)
   refine Lw.tK 19 hHeld (h:=?_)
   refine Lw.tK 20 hHeld (hy:=Or.inl ⟨by rfl,by intro w hSw;have c0:=hSw;clear hSw;go_simp;try with_reducible rfl⟩) (h:=?_)
   refine Lw.tK 21 hHeld (h:=?_)
   refine Lw.tK 22 hHeld (h:=?_)
   refine Lw.tK 23 hHeld (h:=?_)
   refine Lw.tK 24 hHeld (h:=?_)
   refine wpAnyH_ready (rs:=[15]) (by kernel_rfl) (by simp) ?_
   refine AllReadyH.cons rfl (fun K' hK=>?_) AllReadyH.nil
   clear hHeld
   go_simp
   refine(NM.out _).mono ?_
   rintro e wx ⟨rfl,rfl⟩
   refine hK.out _ _ (CH.out _ F.out.below) (fun hHeld=>?_)
   clear hK
   try simp only[Act.put,Lw.s1,Lw.s2,Lw.s3]
   refine wpAnyH_ready (rs:=[25]) (by kernel_rfl) (by simp) ?_
   refine AllReadyH.cons rfl (fun K' hK=>?_) AllReadyH.nil
   clear hHeld
   have s0:=F.out.cell 0 2 rfl rfl
   have f0:=F.out.fz 0 2 rfl rfl
   go_simp
   clear s0 f0
   replace F:=Lib.hid (F.out.put1 0 rfl 2 (.int .i64 (848070069184000+h*3600000000)) (by simp))
   generalize World.setCell _ _ _=w5 at *
   refine hK.out _ _ (CH.out _ F.out.below) (fun hHeld=>?_)
   clear hK
   try simp only[Act.put,Lw.s1,Lw.s2,Lw.s3]
   refine Lw.tK 26 hHeld (h:=?_)
   refine wpAnyH_ready (rs:=[27]) (by kernel_rfl) (by simp) ?_
   refine AllReadyH.cons rfl (fun K' hK=>?_) AllReadyH.nil
   clear hHeld
   have s0:=F.out.cell 0 3 rfl rfl
   have f0:=F.out.fz 0 3 rfl rfl
   go_simp
   clear s0 f0
   replace F:=Lib.hid (F.out.put1 0 rfl 3 (.int .i64 ((ra+h*dra) % 1296000000000)) (by simp))
   generalize World.setCell _ _ _=w6 at *
   refine hK.out _ _ (CH.out _ F.out.below) (fun hHeld=>?_)
   clear hK
   try simp only[Act.put,Lw.s1,Lw.s2,Lw.s3]
   refine Lw.tK 28 hHeld (h:=?_)
   refine wpAnyH_ready (rs:=[29]) (by kernel_rfl) (by simp) ?_
   refine AllReadyH.cons rfl (fun K' hK=>?_) AllReadyH.nil
   clear hHeld
   have s0:=F.out.cell 0 4 rfl rfl
   have f0:=F.out.fz 0 4 rfl rfl
   go_simp
   clear s0 f0
   replace F:=Lib.hid (F.out.put1 0 rfl 4 (.int .i64 (dec+h*ddec)) (by simp))
   generalize World.setCell _ _ _=w7 at *
   refine hK.out _ _ (CH.out _ F.out.below) (fun hHeld=>?_)
   clear hK
   try simp only[Act.put,Lw.s1,Lw.s2,Lw.s3]
   refine wpAnyH_done (by kernel_rfl) ?_ _
   have RB:=Lib.hid (show w7.rangeAt w3.heap.size 0 (obsC (uO ra dec dra ddec h)) from F.out.get 0 rfl)
   go_wp2_with (first|(refine wpList_load_mid rfl _ (.tmp 16) rfl w3.heap.size 0 rfl (obsC (uO ra dec dra ddec h)) _ RB.out Tryz.underlying31 rfl info8 ?_)|(at_builtin;refine wp_app _ rfl (.tmp 119) (.tmp 121) rfl w2.heap.size _ (uL ra dec dra ddec (hs.take m)) (uO ra dec dra ddec h) rfl (by first|rfl|simp[Act.eval]) (OW.out.below F.out.below) zl ?_;intro v' w8 hO8 hb8;have O8:=Lib.hid hO8;have B8:=Lib.hid ((below_then BB.out F.out.below).trans hb8);clear hO8 hb8))
   have c0:=HC.out _ (below_then F2.out.below B8.out)
   have cz:=HZ.out _ (below_then F2.out.below B8.out)
   clear HC HZ CH RB F T3 OW NM zl BB
   cases mb
   ·by_cases e:h=fst0 hs
    ·have NN:=Lib.hid (show false=true↔DF (fst0 hs) (hs.take (m+1)) from⟨fun q=>(by cases q),fun q=>(MS.out.1 q).elim HM.out.2 (fun k=>absurd e k)⟩)
     subst e
     clear MS HM
     go_quiet (fail)
     go_wp2_with fail
     go_roundw
     case rel=>exact⟨m+1,_,rfl,by go_num,by omega,NN,Lib.hid (by rw[US.out];exact O8.out.below (drewN_below2 (Below.refl _ w8) _)),HN,Lib.hid (drewN_below2 B8.out _)⟩
     case measure=>simp[intOf];omega
    ·have NN:=Lib.hid (show (h != fst0 hs)=true↔DF (fst0 hs) (hs.take (m+1)) from⟨fun _=>MS.out.2 (Or.inr e),fun _=>bne_iff_ne.2 e⟩)
     clear MS HM
     go_quiet (fail)
     go_wp2_with fail
     go_roundw
     case rel=>exact⟨m+1,_,rfl,by go_num,by omega,NN,Lib.hid (by rw[US.out];exact O8.out.below (drewN_below2 (Below.refl _ w8) _)),HN,Lib.hid (drewN_below2 B8.out _)⟩
     case measure=>simp[intOf];omega
   ·have NN:=Lib.hid (show true=true↔DF (fst0 hs) (hs.take (m+1)) from⟨fun _=>MS.out.2 (Or.inl (HM.out.1 rfl)),fun _=>rfl⟩)
    clear MS HM
    go_quiet (fail)
    go_wp2_with fail
    go_roundw
    case rel=>exact⟨m+1,_,rfl,by go_num,by omega,NN,Lib.hid (by rw[US.out];exact O8.out.below (drewN_below2 (Below.refl _ w8) _)),HN,Lib.hid (drewN_below2 B8.out _)⟩
    case measure=>simp[intOf];omega
  ·obtain rfl:m=hs.length:=by omega
   rw[List.take_length] at HM OW HH
   have ub:=UBD.out HH.out
   obtain⟨y2,q2,rfl,hy2⟩:=slV_of OW.out.1
   have F3:=Lib.hid (F2.out.call BB.out)
   have ul:(uL ra dec dra ddec hs).length=hs.length:=by rw[uL,List.length_map]
   have MO:=Lib.hid (motion_any y2 q2 (uL ra dec dra ddec hs) wr (HE.out _ F3.out.below) hy2 (by omega) (u_bd ub) (fun _=>by omega))
   rw[ul] at MO ⊢
   have S2:=Lib.hid (fun w' (h:Below wr.heap.size wr w')=>hy2.below h)
   clear HH OW hy2 F2 BB HE HY UBD GV r0 r1 d0 d1
   cases mb
   ·have em:(motE (uL ra dec dra ddec hs)).2.2=22:=by
     by_cases hl0:hs.length=0
     ·obtain rfl:hs = []:=List.eq_nil_of_length_eq_zero hl0
      exact mot_nil
     ·refine(u_mot ub (by omega)).1 fun h hm=>Decidable.byContradiction fun hne=>?_
      have:=HM.out.2 ⟨h,hm,hne⟩
      cases this
    generalize motE (uL ra dec dra ddec hs)=me at *
    obtain⟨s,⟨mt,mra,mdec,mdra,mddec⟩,g⟩:=me
    simp only at em
    subst em
    simp only[atV,atC] at MO
    clear S2 HM ub
    go_wp2_with (go_at_call 17;refine MO.out.mono ?_;rintro e w5 ⟨rfl,k5⟩;have F6:=Lib.hid ((F3.out.call k5).alloc (atC s ⟨mt,mra,mdec,mdra,mddec⟩) 44);clear k5)
    exact bodyPost_ret (results_tmp rfl _ _ _) rfl ⟨rfl,F6.out.below⟩
   ·have hl0:0<hs.length:=by
     obtain⟨h,hm, -⟩:=HM.out.1 rfl
     exact List.length_pos_of_mem hm
    obtain⟨mv,s,em,UMD⟩:=(u_mot ub hl0).2 (HM.out.1 rfl)
    rw[em] at MO
    obtain⟨mt,mra,mdec,mdra,mddec⟩:=mv
    obtain rfl:mdra=24*dra:=UMD.dra
    obtain rfl:mddec=24*ddec:=UMD.ddec
    have ALG:=Lib.hid (fun h hm=>u_along ub UMD (h:=h) (headD_mem hl0) hm)
    have UMD:=Lib.hid UMD
    have ub:=Lib.hid ub
    simp only[atV,atC] at MO
    clear HM em
    have z1:IntKind.i64.wrap (24*dra)=24*dra:=by rw[IntKind.wrap_i64];omega
    have z2:IntKind.i64.wrap (24*ddec)=24*ddec:=by rw[IntKind.wrap_i64];omega
    go_wp2_with (go_at_call 17;refine MO.out.mono ?_;rintro e w5 ⟨rfl,k5⟩;have F6:=Lib.hid ((F3.out.call k5).alloc (atC ⟨#[70,53,49]⟩ ⟨mt,mra,mdec,24*dra,24*ddec⟩) 44);have S5:=Lib.hid (S2.out _ k5);clear k5)
    clear S2 MO
    go_loopw [19,20,21,22,23,24] (fun z _ _ _ _ _ wt=>∃ i:Nat,z = .int .i64 (i:Int)∧i≤hs.length∧Hid (Below (World.alloc w5 (.cells (atC ⟨#[70,53,49]⟩ ⟨mt,mra,mdec,24*dra,24*ddec⟩).toArray 44)).heap.size (World.alloc w5 (.cells (atC ⟨#[70,53,49]⟩ ⟨mt,mra,mdec,24*dra,24*ddec⟩).toArray 44)) wt)) (fun z _ _ _ _ _ _=>hs.length-(intOf z).toNat)
    case atStart=>exact⟨0,rfl,by omega,Lib.hid (Below.refl _ _)⟩
    case round =>
     obtain⟨i,rfl,hi,BX⟩:=hrel
     obtain⟨w6,h6⟩:∃ W,W=World.alloc w5 (.cells (atC ⟨#[70,53,49]⟩ ⟨mt,mra,mdec,24*dra,24*ddec⟩).toArray 44):=⟨_,rfl⟩
     rw[← h6] at BX
     have F6':=F6.out
     have S6':=S5.out.below ((Below.refl _ w5).alloc (Nat.le_refl _) (.cells (atC ⟨#[70,53,49]⟩ ⟨mt,mra,mdec,24*dra,24*ddec⟩).toArray 44))
     rw[← h6] at F6' S6'
     have G6:=Lib.hid F6'
     have S6:=Lib.hid S6'
     clear F6' S6' S5 F6
     by_cases hil:i<hs.length
     ·have i1:(i:Int)<(hs.length:Int):=by omega
      have i0:(0:Int)≤(i:Int):=by omega
      have hii:IntKind.i64.wrap ((i:Int)+1)=((i+1:Nat):Int):=by rw[IntKind.wrap_i64];omega
      have hiu:i<(uL ra dec dra ddec hs).length:=by omega
      obtain⟨b2,off2,e2, -, -⟩:=(S6.out.below BX.out).get hiu
      have eo:(uL ra dec dra ddec hs)[i]'hiu=uO ra dec dra ddec hs[i]:=by simp only[uL,List.getElem_map]
      have RW:=Lib.hid (fun wx (hb:Below w6.heap.size w6 wx)=>(show wx.rangeAt b2 (off2+i*8) (obsC (uO ra dec dra ddec hs[i])) from by
       obtain⟨b',o',e', -,r⟩:=(S6.out.below hb).get hiu
       rw[e2] at e'
       cases e'
       have:=r i hiu
       rwa [eo] at this))
      obtain⟨a,d,ea,⟨a0,a1⟩,⟨d2,d3⟩,a2,a3⟩:=ALG.out _ (List.getElem_mem hil)
      obtain⟨g0,g1⟩:=ub.out.hh _ (List.getElem_mem hil)
      have p:=mul_bd (M:=100000000) g0 g1 x0 x1
      have q:=mul_bd (M:=100000000) g0 g1 y0 y1
      subst e2
      generalize hs[i]=h at *
      have ut:(uO ra dec dra ddec h).t=848070069184000+h*3600000000:=rfl
      have ur:(uO ra dec dra ddec h).ra=(ra+h*dra) % 1296000000000:=rfl
      have ud:(uO ra dec dra ddec h).dec=dec+h*ddec:=rfl
      have AG:=Lib.hid (fun wx=>(show Calls Tryz.prog 21 #[atV ⟨#[70,53,49]⟩ ⟨mt,mra,mdec,24*dra,24*ddec⟩, .int .i64 (uO ra dec dra ddec h).t] wx fun e w'=>e = .returned (.tuple #[.int .i64 a, .int .i64 d, .int .i64 0])∧Below wx.heap.size wx w' from by
       have u1:=UMD.out.t
       have u2:=UMD.out.dec
       obtain⟨A,u3, -, -⟩:=UMD.out.ra
       have u4:=UMD.out.s0
       have u5:=UMD.out.s1
       have q9:=mul_bd2 u4 u5 y0 y1
       dsimp only at u1 u2 u3
       have:=along_any ⟨#[70,53,49]⟩ ⟨mt,mra,mdec,24*dra,24*ddec⟩ (uO ra dec dra ddec h).t wx (by dsimp only;omega) (by rw[ut];omega) (by dsimp only;omega) (by dsimp only;omega) (by dsimp only;omega) (by dsimp only;omega)
       rwa [ea] at this))
      have DI:=Lib.hid (fun w'=>Turns.diff_any a (uO ra dec dra ddec h).ra w' (by omega) (by omega) (by rw[ur];omega) (by rw[ur];omega))
      have CH:=Lib.hid (fun wx (hb:Below w6.heap.size w6 wx)=>(show wx.rangeAt w5.heap.size 0 (atC ⟨#[70,53,49]⟩ ⟨mt,mra,mdec,24*dra,24*ddec⟩)∧wx.cell? ⟨b2,off2+i*8+2,none⟩=some (.int .i64 (uO ra dec dra ddec h).t) from⟨(G6.out.call hb).get 0 rfl,(RW.out wx hb) 2 _ rfl⟩))
      generalize Pl.dif a (uO ra dec dra ddec h).ra=e at *
      obtain⟨f,hf⟩:∃ f,f=d-(uO ra dec dra ddec h).dec:=⟨_,rfl⟩
      rw[← hf] at d2 d3
      have W1:IntKind.i64.wrap (d-(uO ra dec dra ddec h).dec)=f:=by rw[IntKind.wrap_i64,hf];omega
      clear ALG ub UMD ut ur p q g0 g1
      clear hf ud
      have W2:IntKind.i64.wrap (-e) = -e:=by rw[IntKind.wrap_i64];omega
      have W3:IntKind.i64.wrap (-f) = -f:=by rw[IntKind.wrap_i64];omega
      obtain⟨m1,hm1⟩:∃ m,max e (-e)=m:=⟨_,rfl⟩
      obtain⟨m2,hm2⟩:∃ m,max f (-f)=m:=⟨_,rfl⟩
      have k1:¬ 1<m1:=by omega
      have k2:¬ 1<m2:=by omega
      have k3:decide (1<m1)=false:=decide_eq_false k1
      have k4:decide (1<m2)=false:=decide_eq_false k2
      go_upto_region 24 with fail
      refine wp_region_held_drew (S:=fun wx=>wx.rangeAt w5.heap.size 0 (atC ⟨#[70,53,49]⟩ ⟨mt,mra,mdec,24*dra,24*ddec⟩)∧wx.cell? ⟨b2,off2+i*8+2,none⟩=some (.int .i64 (uO ra dec dra ddec h).t)) (by kernel_rfl) (CH.out _ BX.out.drew) (fun hHeld=>?_)
      replace BX:=Lib.hid BX.out.drew
      generalize World.drew _=wd at *
      refine wpAnyH_take (i:=0) (oi:=?oi0x27) (v:=?v0x27) ?hi0x27 (by kernel_rfl) (by kernel_rfl) (by kernel_rfl) ?hq0x27 ?hy0x27 hHeld ?rest0x27
      case hi0x27=>((try simp only[List.getElem?_toArray,List.getElem?_cons_succ,List.getElem?_cons_zero]);(try rfl))
      case hq0x27=>exact fun _ _ _ h=>h
      case hy0x27 =>
       refine' yieldsIf_load_mid ?_ 44 (.tmp 17) ?_ w5.heap.size 0 ?_ (atC ⟨#[70,53,49]⟩ ⟨mt,mra,mdec,24*dra,24*ddec⟩) _ ?_ Tryz.underlying44 ?_ info6
       ·rfl
       ·rfl
       ·rfl
       ·exact fun _ h=>h.1
       ·rfl
      try simp only[Act.put,Lw.s1,Lw.s2,Lw.s3]
      refine Lw.tK 1 hHeld (h:=?_)
      refine Lw.tK 2 hHeld (h:=?_)
      refine Lw.tK 3 hHeld (h:=?_)
      refine Lw.tK 4 hHeld (h:=?_)
      refine Lw.tK 5 hHeld (hy:=Or.inl ⟨by rfl,by intro w hSw;have c0:=hSw.2;clear hSw;go_simp;try with_reducible rfl⟩) (h:=?_)
      refine wpAnyH_ready (rs:=[6]) (by kernel_rfl) (by simp) ?_
      refine AllReadyH.cons rfl (fun K' hK=>?_) AllReadyH.nil
      clear hHeld
      go_simp
      refine(AG.out _).mono ?_
      rintro e wx ⟨rfl,hb⟩
      replace BX:=Lib.hid (below_then BX.out hb)
      clear hb
      refine hK.out _ _ (CH.out _ BX.out) (fun hHeld=>?_)
      clear hK
      try simp only[Act.put,Lw.s1,Lw.s2,Lw.s3]
      refine Lw.tK 7 hHeld (h:=?_)
      refine Lw.tK 8 hHeld (h:=?_)
      refine Lw.tK 9 hHeld (h:=?_)
      refine Lw.tK 10 hHeld (h:=?_)
      refine Lw.tK 11 hHeld (h:=?_)
      refine Lw.tK 12 hHeld (h:=?_)
      refine Lw.tK 13 hHeld (h:=?_)
      refine wpAnyH_done (by kernel_rfl) ?_ _
      have BY:=BX.out
      have t3:wx.cell? ⟨b2,off2+i*8+3,none⟩=some (.int .i64 (uO ra dec dra ddec h).ra):=(RW.out _ BY) 3 _ rfl
      have t4:wx.cell? ⟨b2,off2+i*8+4,none⟩=some (.int .i64 (uO ra dec dra ddec h).dec):=(RW.out _ BY) 4 _ rfl
      generalize (uO ra dec dra ddec h).ra=ar at *
      generalize (uO ra dec dra ddec h).dec=dr at *
      clear BY
      go_upto_region 25 with fail
      go_quiet ((go_at_call 19;first|exact quiet_left (DI.out _)|exact quiet_add_left (DI.out _)))
      go_wp2_with fail
      go_roundw
      case rel=>exact⟨i+1,by go_num,by omega,Lib.hid (by rw[← h6];exact drewN_below2 BX.out _)⟩
      case measure=>simp[intOf];omega
     ·obtain rfl:i=hs.length:=by omega
      have BZ:=Lib.hid (G6.out.call BX.out).below
      go_wp2_with fail
      exact bodyPost_ret (results_tmp rfl _ _ _) rfl ⟨rfl,BZ.out⟩
theorem uni_any (ra dec dra ddec:Int) (y:Option Addr) (cap:Nat) (hs:List Int) (w:World) (hE:ES w) (hD:DB w) (hm:hs.length≤9223372036854775807) (hy:InA w y hs) :
  Calls Tryz.prog 6 #[.int .i64 ra, .int .i64 dec, .int .i64 dra, .int .i64 ddec, .slice y hs.length cap] w fun e w'=>e = .returned (.bool true)∧Below w.heap.size w w':=by
 by_cases h:ra<0∨1296000000000≤ra∨dec < -300000000000∨300000000000<dec∨dra < -100000000∨100000000<dra∨ddec < -100000000∨100000000<ddec∨9<hs.length
 ·exact uni_out ra dec dra ddec y cap hs w hE hD hm h
 ·exact uni_main ra dec dra ddec y cap hs w hE hD hy (by omega) (by omega) (by omega) (by omega) (by omega) (by omega) (by omega) (by omega) (by omega)
end Tw
end Go.Proofs.YtdnogmanbdgadaaGreatDoor
