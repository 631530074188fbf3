/-
  Lemmas and walks, texts joined: TKOwn, TKPrs, QRat, QGrid, QMov, QAl, TLNPl, TLNGv, TLNam.
-/
import Derived.WalkKit
import Derived.Deep.WholeRow
import Derived.Deep.MidRow
import Derived.Below
import Derived.Deep.QuietTactic
import Derived.ProofKit
import Derived.Lib.Hide
import Derived.Laws.RangeAny
import Derived.LoopTactic
import Derived.BigQuiet
import Derived.WalkLawsBesides
import Derived.WalkSpells
import Derived.Shelf.Bits.Mul64
import Derived.Shelf.LaysM
import Derived.Shelf.Pu.ParseUintPublic10
import Derived.Shelf.SlicesE.Clone
import Derived.Shelf.Small.Bits
import Derived.Shelf.Small.Strs
import Derived.Shelf.Small.Utf8
import Derived.Shelf.Small.Wraps
import Derived.Shelf.Strconv.Itoa0
import Derived.Shelf.Strconv.Itoa1
import Derived.Shelf.Strconv.Itoa2
import Derived.Shelf.Strconv.Itoa3
import Derived.Shelf.Strconv.Itoa4
import Derived.Shelf.Strings.Builder1
import Derived.Shelf.Strings.Builder2
import Derived.Shelf.Strings.BuilderF
import Derived.Shelf.Strings.Cut
import Derived.Shelf.Strings.OnBuilder
import Derived.Shelf.Strings.Prefix
import Derived.Shelf.Strings.Repeat
import Derived.Shelf.Strings.Runes
import Derived.Shelf.Strings.Search1
import Derived.Shelf.Strings.Search2
import Derived.Shelf.Strings.Shaped
import Derived.Shelf.Strings.SlTrimAscii
import Derived.Shelf.Strings.Trim
import Derived.Lib.SmallJoins
import Derived.Lib.LaidTab
import Derived.Laws.Concat
import Derived.Lib.Repeat
import Derived.Lib.ItoaLen
import Derived.Sort.Grow
import Derived.Outline
import Derived.Deep.RegionHeld3
import Derived.StillTailTactics
import Derived.Lib.BitFns
import Derived.Laws.Bits64b
import Derived.OneCell
import Derived.OwnWalk
import Derived.Deep.AppendLies
import Derived.Lib.AtoiErrMem
import Derived.Laws.BitsAllLaws
import Derived.Laws.IdiomStrings
import Derived.Deep.DeepCutAuto
import Derived.Deep.Cut
import Derived.Lib.Join
import Derived.Deep.OwnRows
import Derived.Laws.IdiomCopy
import Derived.Laws.DeepBits32
import Derived.RegionTactic
import Derived.BigRegion
import Derived.IntWalk
import Derived.OwnWalkIn
import Derived.RangeFuncNested
import Derived.RangeFuncBound
import Derived.RangeFuncCalls
import Derived.RangeFuncLeaves
import Derived.RangeFuncBox
import Derived.Shelf.Abstract
import Derived.Shelf.RegionOpen
import Derived.TacticsInMore
import Derived.LoopNIn
import Derived.LoopIn
import Derived.Shelf.Spec.BitsCarry
import Derived.Laws.AppendOwnNone
import Derived.ChangeKeysEq
import Derived.Maps.AppendAt
import Derived.Laws.CopyOwn
import Derived.Recover
import Derived.Defers
import Derived.ScopeJumps
import Derived.Lib.AppendZeros
import Derived.Sort.CutIn
import Derived.Shelf.SlicesQ.Contains
import Derived.Shelf.SlicesQ.IndexFunc
import Derived.Shelf.SlSortCmp.Whole1
import Derived.Shelf.Spec.TrailingZeros
import Derived.Shelf.SlSortCmp.NoneTotal
import Derived.Laws.StructEq
import Derived.RangeFuncWrites
import Derived.Deep.CutBlock
import Derived.Deep.CutRange
import Derived.DeepKeys
import Derived.Laws.MakeOwn
import Derived.Test.YtdnogmanbdgadaaGreatDoorRows
import Derived.Test.YtdnogmanbdgadaaGreatDoorProg
import Derived.Test.YtdnogmanbdgadaaGreatDoorTb01
import Derived.Test.YtdnogmanbdgadaaGreatDoorTb02
import Derived.Test.YtdnogmanbdgadaaGreatDoorTb03
import Derived.Test.YtdnogmanbdgadaaGreatDoorTb04
import Derived.Test.YtdnogmanbdgadaaGreatDoorTb05
import Derived.Test.YtdnogmanbdgadaaGreatDoorTb06
import Derived.Test.YtdnogmanbdgadaaGreatDoorTb07
import Derived.Test.YtdnogmanbdgadaaGreatDoorTb08
import Derived.Test.YtdnogmanbdgadaaGreatDoorTb09
import Derived.Test.YtdnogmanbdgadaaGreatDoorTb10
import Derived.Test.YtdnogmanbdgadaaGreatDoorTb11
import Derived.Test.YtdnogmanbdgadaaGreatDoorTb12
import Derived.Test.YtdnogmanbdgadaaGreatDoorTb13
import Derived.Test.YtdnogmanbdgadaaGreatDoorTb14
import Derived.Test.YtdnogmanbdgadaaGreatDoorTb15
import Derived.Test.YtdnogmanbdgadaaGreatDoorTb16
import Derived.Test.YtdnogmanbdgadaaGreatDoorTb17
import Derived.Test.YtdnogmanbdgadaaGreatDoorTb18
import Derived.Test.YtdnogmanbdgadaaGreatDoorTb19
import Derived.Test.YtdnogmanbdgadaaGreatDoorTb20
import Derived.Test.YtdnogmanbdgadaaGreatDoorTb21
import Derived.Test.YtdnogmanbdgadaaGreatDoorTb22
import Derived.Test.YtdnogmanbdgadaaGreatDoorTb23
import Derived.Test.YtdnogmanbdgadaaGreatDoorTb24
import Derived.Test.YtdnogmanbdgadaaGreatDoorTb25
import Derived.Test.YtdnogmanbdgadaaGreatDoorTb26
import Derived.Test.YtdnogmanbdgadaaGreatDoorTb27
import Derived.Test.YtdnogmanbdgadaaGreatDoorTb28
import Derived.Test.YtdnogmanbdgadaaGreatDoorTb29
import Derived.Test.YtdnogmanbdgadaaGreatDoorTb30
import Derived.Test.YtdnogmanbdgadaaGreatDoorTb31
import Derived.Test.YtdnogmanbdgadaaGreatDoorTb32
import Derived.Test.YtdnogmanbdgadaaGreatDoorTb33
import Derived.Test.YtdnogmanbdgadaaGreatDoorTb34
import Derived.Test.YtdnogmanbdgadaaGreatDoorTb35
import Derived.Test.YtdnogmanbdgadaaGreatDoorTb36
import Derived.Test.YtdnogmanbdgadaaGreatDoorTb37
import Derived.Test.YtdnogmanbdgadaaGreatDoorTb38
import Derived.Test.YtdnogmanbdgadaaGreatDoorTb39
import Derived.Test.YtdnogmanbdgadaaGreatDoorTb40
import Derived.Test.YtdnogmanbdgadaaGreatDoorTb41
import Derived.Test.YtdnogmanbdgadaaGreatDoorTb42
set_option linter.unusedSimpArgs false
set_option linter.unusedVariables false
set_option maxRecDepth 100000
set_option maxHeartbeats 40000000
namespace Go.Proofs.YtdnogmanbdgadaaGreatDoor
namespace Tw
open Go.RowKit Lw Ow

section
variable {α : Type} {E : TypeId} {k : Nat} {enc : α → List Value}
end
/-! ### The elements -/
theorem info_pr:(Tryz.prog.info? 104).map (fun i=>(i.zero,i.size,i.bytes))=some (some (.agg #[.int .i64 0, .int .i64 0]),2,16):=by kernel_rfl
end Tw
namespace Tw
open Go.RowKit Lw Tk _root_.Go.Proofs.YtdnogmanbdgadaaGreatDoor.Op Ow Go.Shelf
attribute [local go_sem] Oper.semAt_some

abbrev pN {n:Nat} (p:Fin n×Fin n):Nat×Nat:=(p.1.1,p.2.1)
def pairsL (l:List Ob) (u:Rl):List (Nat×Nat):=if stT l u=0 then(allA l u l.length).map pN else[]
theorem pairs_any (x:Option Addr) (cap:Nat) (l:List Ob) (u:Rl) (w:World) (hE:ES w) (hl:SlA w x l) (hm:l.length≤1000000) (hb:OBs l) :
  Calls Tryz.prog 23 #[.slice x l.length cap,rlV u] w fun e w'=>∃ V,e = .returned (.tuple #[V, .int .i64 (stT l u)])∧OwnG 104 2 prE w' w.heap.size V (pairsL l u)∧Below w.heap.size w w':=by
 have F0:=Lib.hid ((Fr.start w).alloc (rlC u) 24)
 have ST:=Lib.hid (fun w' (hbw:Below w.heap.size w w')=>start_any x cap l u w' (hE.below hbw) (hl.below hbw) hm hb)
 refine(callsIn_wide (n:=4)).1 ?_
 refine callsIn_of_wp_marks Tryz.func23 rfl trivial ?_ rfl
 simp only[Tryz.ntmps23,List.size_toArray,List.length_cons,List.length_nil,Nat.reduceAdd,Nat.reduceSub,Array.replicate_succ,Array.replicate_zero,List.push_toArray,List.append_toArray,List.nil_append,List.cons_append]
 by_cases h0:stT l u=0
 ·obtain⟨hlen,hok,hu⟩:=stT_ok h0
  have HL:=Lib.hid (fun w' (hbw:Below w.heap.size w w')=>hl.below hbw)
  rw[h0] at ST ⊢
  have EP:Hid (pairsL l u=(allA l u l.length).map pN):=Lib.hid (if_pos h0)
  clear hE hl hb h0
  gi_wp2_with (first|(refine⟨trivial,?_⟩;gi_at_call 31;refine(callsIn_wide.2 (ST.out _ F0.out.below)).mono ?_;rintro e w1 ⟨rfl,hb⟩;have F1:=F0.out.call hb;obtain⟨c0,c1,c2,c3,c4⟩:=F1.c5 0 rfl;have F2:=F1.alloc [.slice none 0 0] 56;obtain⟨d0,d1,d2,d3,d4⟩:=F2.c5 1 rfl;have F2:=Lib.hid F2;clear hb F1)|(refine⟨trivial,?_⟩;gi_at_call 32;refine(callsIn_wide.2 (pairs_walk _ _ _ _ _)).mono ?_;rintro e w' ⟨rfl,rfl⟩))
  clear c0 c1 c2 c3 c4 d0 d1 d2 d3 d4
  have F3:=F2.out.alloc (ntC x l.length cap u) 75
  have lw:=F2.out.below.size
  have lh:=(F2.out.least 1 rfl).2
  simp only[World.size_alloc] at F3 lw lh
  have bO:=Boxed.new w1 56 (.slice none 0 0)
  have bN:=World.alloc_heap_new (w1.alloc (.cells #[.slice none 0 0] 56)) (.cells (ntC x l.length cap u).toArray 75)
  rw[World.size_alloc] at bN
  obtain⟨i0,hi,hz0,hz1,hz2⟩:=info_parts info_pr
  refine wpIn_rangeFunc_ownG rfl (by omega) (gf:=61) (lb:=#[.pointer (some ⟨w1.heap.size+1,0,none⟩)]) rfl trivial (enters_of Tryz.func61 (by kernel_rfl) rfl)
   (pairs_stops 3 (by omega) (w1.heap.size+1) l x cap u w _ (HL.out w (Below.refl _ _)) hok hu hm F3.below bN) Wd.keepB_t (Wd.keepB_b (by simp;omega) (by simp)) (Below.refl _ _) (fun _=>rfl)
   (fun pre W=>((∃ v,Boxed W w1.heap.size 56 v∧W.ownsRow w.heap.size 104 2 v pre.length ((pre.map pN).flatMap prE)∧True)∧W.heap[w1.heap.size+1]? = some (.cells (ntC x l.length cap u).toArray 75 (0,0)))∧Below w.heap.size w W)
   (fun _ _ _=>False)
   (OwnFrom.and (OwnFrom.and (Own.from (holdsRow_own w.heap.size w1.heap.size 56 104 2 (fun (pre:List (Fin l.length×Fin l.length))=>pre.length) (fun pre=>(pre.map pN).flatMap prE) (fun _ _=>True)) _) (Own.from (blk_own _ _ _) _)) (ownFrom_below (Nat.le_refl _) (by simp;omega)))
   (fun _ _ _ _ _ hs _ _=>hs)
   ⟨⟨⟨_,bO.alloc _,World.ownsRow_nil _ _ _ _,trivial⟩,bN⟩,F3.below⟩
   (fun z=>{ tmps:=#[.slice x l.length cap,rlV u,undef, .pointer (some ⟨w.heap.size,0,none⟩), .slice none 0 0, .int .i64 0, .int .i64 0, .pointer (some ⟨w1.heap.size,0,none⟩), .int .i64 (z.1.1:Int), .int .i64 (z.2.1:Int), .slice x l.length cap,Value.agg #[.int .i64 u.least, .int .i64 u.most, .int .i64 u.speed, .int .i64 u.off, .int .i64 u.count], .int .i64 0, .int .i64 0, .bool false,undef, .slice x l.length cap,Value.agg #[.int .i64 u.least, .int .i64 u.most, .int .i64 u.speed, .int .i64 u.off, .int .i64 u.count],Value.agg #[.slice x l.length cap, .int .i64 u.least, .int .i64 u.most, .int .i64 u.speed, .int .i64 u.off, .int .i64 u.count], .func (.func 61) #[] #[.pointer (some ⟨w1.heap.size+1,0,none⟩)], .int .i64 (z.1.1:Int), .int .i64 (z.2.1:Int),undef,undef,undef,undef,undef,undef,undef],defers:=[] }) ?assign ?body ?done ?stop
  case assign =>
   intro l' z W K hK
   dsimp only[pEnc]
   gi_wp2
   exact hK
  case body =>
   rintro l' pre z W ⟨⟨⟨v,hv,hrow, -⟩,hN⟩,hB⟩ hlt
   have hc:=hv.cell
   have hpl:pre.length≤40000:=by
    exact Nat.le_trans (Nat.le_of_lt hlt) (Nat.mul_le_mul hlen hlen)
   have hne:=blk_row hN (by decide) hrow
   gi_wp2_with (gi_at_builtin;refine wpListIn_append_own _ rfl _ _ 56 rfl w.heap.size 104 i0 (.agg #[.int .i64 0, .int .i64 0]) 2 16 Tryz.underlying56 hi hz0 hz1 hz2 rfl (by decide) _ _ _ rfl (hrow.alloc _) ⟨W.heap.size,0,none⟩ 1 1 (prE (pN z)) rfl rfl (newsG (rangeAt_new _ _ _)) (prE_one _) (by unfold maxLen;omega) (by omega) (by have:=hB.size;simp;omega) ?_;intro v' w2 hown' hgrow _;obtain⟨g',cap',rfl⟩:=ownsRow_succ hown';obtain⟨hv1,hv2,hr2,hk2,hb2⟩:=hv.appended (by decide) hrow hB.size (by omega) hown' hgrow;have hc1:=hv1.cell;have hf1:=hv1.frozen)
   have hN2:=blk_set (blk_alloc_grown hN hne hgrow) w1.heap.size (by omega) (.slice (some ⟨g',0,none⟩) (pre.length+1) cap')
   exact⟨hk2.from _,⟨hb2,hN2.trans hN.symm⟩,⟨⟨⟨_,hv2,by simpa using hr2,trivial⟩,hN2⟩,hB.trans hb2⟩⟩
  case done =>
   rintro D ys W hD rfl ⟨⟨⟨v,hv,hrow, -⟩,hN⟩,hB⟩ hK
   have hc:=hv.cell
   gi_wp2
   have hbb:=hB.trans (belowK_b (w:=w) (Nat.le_refl _) W D _ (.deferred none) (by simp at hD;omega) hK rfl rfl)
   refine⟨by simp, .inl ⟨_,_,rfl,run_takeDeferred hK,?_⟩⟩
   exact⟨_,results_tmp2 rfl _ _ _,v,rfl,⟨by rw[EP.out,List.length_map];exact ownsRow_putObj hrow _ hK rfl,hbb.size⟩,hbb⟩
  case stop =>
   rintro D c pre W _ _ h _
   exact h.elim
 ·have EP:Hid (pairsL l u = []):=Lib.hid (if_neg h0)
  clear hE hl hb
  generalize stT l u=c at *
  gi_wp2_with (refine⟨trivial,?_⟩;gi_at_call 31;refine(callsIn_wide.2 (ST.out _ F0.out.below)).mono ?_;rintro e w1 ⟨rfl,hb⟩;have F1:=Lib.hid (F0.out.call hb);clear hb)
  ·exact⟨_,results_tmp2 rfl _ _ _, .slice none 0 0,rfl,by rw[EP.out];exact OwnG.nil _ _ F1.out.below.size,F1.out.below⟩
end Tw
namespace Wd
open Go.RowKit Lw

theorem FracR.sets {B:Nat} {w:World} {V:Value} {r:Rat} (h:FracR B w V r) (b:Nat) (hb:b<B) (o:Nat) (vs:List Value):FracR B (w.setCells b o vs) V r:=by
 obtain⟨a,k,c,a',k',c',e,h1,h2,h3,h4⟩:=h
 exact⟨a,k,c,a',k',c',e,h1.setCells (fun b' off e=>by have:=h3 b' off e;omega) _ _,h2.setCells (fun b' off e=>by have:=h4 b' off e;omega) _ _,h3,h4⟩
end Wd
namespace Wd
open Go.RowKit Lw Tw

theorem WcR.below {w w':World} {B:Nat} {x:Wc} {z:Int} (h:WcR w B x z) (hb:Below w.heap.size w w'):WcR w' B x z:=⟨h.s,h.n.below hb,h.f⟩
theorem Wide.cells {w:World} {B:Nat} {V:Value} {z:Int} (h:Wide B w V z):∃ x:Wc,V = .agg (wcE x).toArray∧WcR w B x z:=by
 obtain⟨a,k,c,e,h1,h2⟩:=h
 exact⟨⟨decide (z<0),a,k,c⟩,e,rfl,h1,h2⟩
end Wd
namespace Wd
open Go.RowKit Lw Tw

def mvR (a r t:Int):Rat:=(a:Rat)+mkRat (r*t) 86400000000
theorem mvR_len {a r t:Int} (ha:-9223372036854775808≤a∧a<9223372036854775808) (hr:-9223372036854775808≤r∧r<9223372036854775808) (ht:-9223372036854775808≤t∧t<9223372036854775808):FL (a:Rat) 2∧FL (mkRat (r*t) 86400000000) 4∧FL (mvR a r t) 7∧(canon (r*t).natAbs).length≤4:=by
 have hp:(canon (r*t).natAbs).length≤4:=by
  have:=len_mulZ r t
  have:=len_i64 hr.1 hr.2
  have:=len_i64 ht.1 ht.2
  omega
 have f1:FL (a:Rat) 2:=FL.int (len_i64 ha.1 ha.2) (by decide)
 have f2:FL (mkRat (r*t) 86400000000) 4:=FL.of (by decide) hp (canon_len 4 _ (by decide))
 exact⟨f1,f2,f1.add f2,hp⟩
theorem moved_any (a r t:Int) (w:World) (ha:-9223372036854775808≤a∧a<9223372036854775808) (hr:-9223372036854775808≤r∧r<9223372036854775808) (ht:-9223372036854775808≤t∧t<9223372036854775808) :
  Calls Tryz.prog 52 #[.int .i64 a, .int .i64 r, .int .i64 t] w fun e w'=>e = .returned (.tuple #[.int .i64 (intE (Ls.roundR (mvR a r t))).1, .int .i64 (intE (Ls.roundR (mvR a r t))).2])∧Below w.heap.size w w':=by
 obtain⟨l1,l2,l3,l4⟩:=mvR_len ha hr ht
 have OF:=Lib.hid (fun w'=>of_any a 1 w' ha.1 ha.2 (by decide) (by decide))
 rw[show Int.toNat 1=1 from rfl,Rat.mkRat_one a] at OF
 have FR:=Lib.hid (fun w'=>from_walk r w' hr.1 hr.2)
 have FT:=Lib.hid (fun w'=>from_walk t w' ht.1 ht.2)
 have l5:=len_i64 hr.1 hr.2
 have l6:=len_i64 ht.1 ht.2
 have MU:=Lib.hid (fun V1 V2 w' (h1:Wide 0 w' V1 r) (h2:Wide 0 w' V2 t)=>mul_walk V1 V2 r t w' h1 h2 (by omega))
 have MK:=Lib.hid (fun V1 V2 w' (h1:Wide 0 w' V1 (r*t)) (h2:Wide 0 w' V2 ((86400000000:Nat):Int))=>make_any V1 V2 (r*t) 86400000000 w' h1 h2 (by decide) (Nat.le_trans l4 (by decide)) (Nat.le_trans (canon_len 4 _ (by decide)) (by decide)))
 obtain⟨q,hq⟩:∃ q:Rat,q=mkRat (r*t) 86400000000:=⟨_,rfl⟩
 rw[← hq] at MK l2
 have AD:=Lib.hid (fun V1 V2 w' (h1:FracR 0 w' V1 (a:Rat)) (h2:FracR 0 w' V2 q)=>fadd_any V1 V2 (a:Rat) q w' h1 h2 (l1.mono (by decide)) (l2.mono (by decide)))
 have RD:=Lib.hid (fun V w' (h:FracR 0 w' V (mvR a r t))=>rounded_any V (mvR a r t) w' h (l3.mono (by decide)))
 have em:(a:Rat)+q=mvR a r t:=by rw[hq];rfl
 rw[em] at AD
 generalize mvR a r t=v at *
 generalize Ls.roundR v=z at *
 generalize (intE z).1=z1 at *
 generalize (intE z).2=z2 at *
 obtain⟨ar,har⟩:∃ x:Rat,x=(a:Rat):=⟨_,rfl⟩
 rw[← har] at OF AD
 obtain⟨p,hp⟩:∃ x:Int,x=r*t:=⟨_,rfl⟩
 rw[← hp] at MU MK
 clear l1 l2 l3 l4 l5 l6 ha hr ht hq em har hp
 go_enter Tryz.func52,Tryz.ntmps52
 go_wp2_with fail
 refine(OF.out _).mono ?_
 rintro e w1 ⟨V,rfl,hV,hb⟩
 obtain⟨x,rfl,hx⟩:=hV.cells
 have F1:=((Fr.start w).call hb).alloc (fcE x) 68
 have HX:=Lib.hid (hx.below ((Below.refl _ w1).alloc (Nat.le_refl _) (.cells (fcE x).toArray 68)))
 replace F1:=Lib.hid F1
 have S1:=Lib.hid hb.size
 clear hb hx hV OF
 go_wp2_with fail
 refine(FR.out _).mono ?_
 rintro e w2 ⟨V2,rfl,hV2,hb⟩
 replace F1:=Lib.hid (F1.out.call hb)
 replace HX:=Lib.hid (HX.out.below hb)
 have H2:=Lib.hid (hV2.mono (Nat.zero_le _))
 clear hV2 hb FR
 go_wp2_with fail
 refine(FT.out _).mono ?_
 rintro e w3 ⟨V3,rfl,hV3,hb⟩
 replace F1:=Lib.hid (F1.out.call hb)
 replace HX:=Lib.hid (HX.out.below hb)
 replace H2:=Lib.hid (H2.out.below hb)
 have H3:=Lib.hid (hV3.mono (Nat.zero_le _))
 clear hV3 hb FT
 go_wp2_with fail
 refine(MU.out _ _ _ H2.out H3.out).mono ?_
 rintro e w4 ⟨V4,rfl,hV4,hb⟩
 obtain⟨x4,rfl,hx4⟩:=hV4.cells
 have F2:=(F1.out.call hb).alloc (wcE x4) 66
 have ba:=(Below.refl _ w4).alloc (Nat.le_refl _) (.cells (wcE x4).toArray 66)
 replace HX:=Lib.hid ((HX.out.below hb).below ba)
 have H4:=Lib.hid (hx4.below ba)
 obtain⟨c0,c1⟩:=F2.c2 0 rfl
 replace F2:=Lib.hid F2
 clear hV4 hb ba hx4 F1 H2 H3 MU
 go_upto_region 7 with fail
 clear c0 c1
 obtain⟨w5,hw5⟩:∃ W,W=w4.alloc (.cells #[.bool x4.s, .slice x4.a x4.k x4.c] 66):=⟨_,rfl⟩
 replace HX:Hid (FcR w5 w.heap.size x ar):=by rw[hw5];exact HX
 replace H4:Hid (WcR w5 w3.heap.size x4 p):=by rw[hw5];exact H4
 replace F2:Hid (Fr w [(w4.heap.size,wcE x4),(w1.heap.size,fcE x)] w5):=by rw[hw5];exact F2
 rw[← hw5]
 clear hw5
 go_cut [9,11] (fun e p wx=>NewF w [(w4.heap.size,wcE x4),(w1.heap.size,fcE x)] w5 q p wx∧e = .int .i64 0)
 case first =>
  have FF:=Lib.hid F2.out.drew
  have HS:=Lib.hid (show Lim w5.drew x4.a x4.k x4.c (canon p.natAbs) from H4.out.n.below (Below.refl _ _).drew)
  have X4:=Lib.hid H4.out.s
  obtain⟨B0,hB0⟩:∃ b,b=w5.drew.heap.size:=⟨_,rfl⟩
  have LO:=Lib.hid (show w5.heap.size≤B0 from by rw[hB0];exact Nat.le_refl _)
  have BB:=Lib.hid (Below.refl B0 w5.drew)
  have BQ:=Lib.hid (show B0≤w5.drew.heap.size from Nat.le_of_eq hB0)
  clear hB0
  have LB:=Lib.hid ((Below.refl w5.heap.size w5).drew)
  clear F2 H4 HX AD RD
  refine TillSt.start (fun w'=>w'.cell? ⟨w4.heap.size,0,none⟩=some (.bool (decide (p<0)))∧w'.cell? ⟨w4.heap.size,1,none⟩=some (.slice x4.a x4.k x4.c)) 7 (by kernel_rfl) (⟨(FF.out.cell 0 0 rfl rfl).trans (by rw[X4.out]),FF.out.cell 0 1 rfl rfl⟩) (fun hHeld=>?_)
  generalize w5.drew=wd at *
  refine TillSt.tL 0 hHeld (hy:=Or.inl ⟨by rfl,by intro w hSw;obtain⟨q1,q2⟩:=hSw;go_simp;try with_reducible rfl⟩) (h:=?_)
  refine TillSt.nx [1,6] ?_
  refine NextSt.cons rfl (fun K' hK=>?_) (NextSt.cons rfl (fun K' hK=>?_) NextSt.nil)
  ·
   clear hHeld
   go_simp
   refine(from_walk 86400000000 _ (by decide) (by decide)).mono ?_
   rintro e w6 ⟨V6,rfl,hV,hb⟩
   replace FF:=Lib.hid (FF.out.call hb)
   replace HS:=Lib.hid (HS.out.below hb)
   replace BB:=Lib.hid (BB.out.trans (hb.mono BQ.out))
   replace BQ:=Lib.hid (Nat.le_trans BQ.out hb.size)
   have H6:=Lib.hid (show Wide 0 w6 V6 ((86400000000:Nat):Int) from hV.mono (Nat.zero_le _))
   clear hV hb
   refine hK.out _ _ (⟨(FF.out.cell 0 0 rfl rfl).trans (by rw[X4.out]),FF.out.cell 0 1 rfl rfl⟩) (fun hHeld=>?_)
   clear hK
   try simp only[Act.put,Lw.s1,Lw.s2,Lw.s3]
   refine TillSt.nx [2,6] ?_
   refine NextSt.cons rfl (fun K' hK=>?_) (NextSt.cons rfl (fun K' hK=>?_) NextSt.nil)
   ·
    clear hHeld
    go_simp
    refine(MK.out _ V6 _ (wide0 HS.out) H6.out).mono ?_
    rintro e w7 ⟨V,rfl,⟨aq,kq,cq,aq2,kq2,cq2,rfl,l1,l2,f1,f2⟩,hb⟩
    have G1:=Lib.hid (fun b off e=>Nat.le_trans BQ.out (f1 b off e))
    have G2:=Lib.hid (fun b off e=>Nat.le_trans BQ.out (f2 b off e))
    replace FF:=Lib.hid (FF.out.call hb)
    replace BB:=Lib.hid (BB.out.trans (hb.mono BQ.out))
    replace BQ:=Lib.hid (Nat.le_trans BQ.out hb.size)
    have L1:=Lib.hid l1
    have L2:=Lib.hid l2
    clear l1 l2 f1 f2 hb H6 HS
    refine hK.out _ _ (⟨(FF.out.cell 0 0 rfl rfl).trans (by rw[X4.out]),FF.out.cell 0 1 rfl rfl⟩) (fun hHeld=>?_)
    clear hK
    try simp only[Act.put,Lw.s1,Lw.s2,Lw.s3]
    refine TillSt.tP 3 (fun _=>hHeld) ?_
    refine TillSt.tP 4 (fun _=>hHeld) ?_
    refine TillSt.tP 5 (fun _=>hHeld) ?_
    refine TillSt.nx [6] ?_
    refine NextSt.cons rfl (fun K' hK=>?_) NextSt.nil
    clear hHeld
    go_simp
    have FA:=FF.out.alloc (frV false none 0 0 false none 0 0) 68
    have ba:=(Below.refl _ w7).alloc (Nat.le_refl _) (.cells (frV false none 0 0 false none 0 0).toArray 68)
    have NB:=Lib.hid BQ.out
    replace BB:=Lib.hid (BB.out.trans (ba.mono BQ.out))
    replace BQ:=Lib.hid (Nat.le_trans BQ.out ba.size)
    replace FF:=Lib.hid FA
    have G3:=Lib.hid (fun (p:0<kq) b off e=>Nat.ne_of_lt (L1.out.lt p (b:=b) (off:=off) e))
    have G4:=Lib.hid (fun (p:0<kq2) b off e=>Nat.ne_of_lt (L2.out.lt p (b:=b) (off:=off) e))
    replace L1:=Lib.hid (L1.out.below ba)
    replace L2:=Lib.hid (L2.out.below ba)
    clear FA ba
    generalize w7.heap.size=bN at *
    generalize World.alloc w7 (.cells #[.bool false, .slice none 0 0, .bool false, .slice none 0 0] 68)=wn at *
    refine hK.out _ _ (⟨(FF.out.cell 1 0 rfl rfl).trans (by rw[X4.out]),FF.out.cell 1 1 rfl rfl⟩) (fun hHeld=>?_)
    clear hK
    try simp only[Act.put,Lw.s1,Lw.s2,Lw.s3]
    refine TillSt.nx [7] ?_
    refine NextSt.last rfl (by kernel_rfl) (fun K' hK=>?_) NextSt.nil
    obtain⟨s0,s1,s2,s3⟩:=FF.out.c4 0 rfl
    obtain⟨s4,s5,s6,s7⟩:=FF.out.f4 0 rfl
    clear hHeld
    go_simp
    clear s0 s1 s2 s3 s4 s5 s6 s7
    refine hK.out _ _ ?_
    clear hK
    try simp only[Act.put,Lw.s1,Lw.s2,Lw.s3]
    refine TillSt.tP 8 (fun q=>by cases q) ?_
    refine TillSt.done (by kernel_rfl) ?_ _
    have PQ:=FF.out.put 0 rfl (frV (decide (q.num<0)) aq kq cq false aq2 kq2 cq2) rfl
    have bb:=below_setCells bN NB.out (frV (decide (q.num<0)) aq kq cq false aq2 kq2 cq2) 0 _ BB.out
    have nf:=Lib.hid (show NewF _ _ _ q (.pointer (some ⟨bN,0,none⟩)) _ from⟨bN,⟨decide (q.num<0),aq,kq,cq,aq2,kq2,cq2⟩,rfl,Nat.le_trans LO.out NB.out,PQ,⟨rfl,L1.out.setCellsK G3.out 0 (frV (decide (q.num<0)) aq kq cq false aq2 kq2 cq2),L2.out.setCellsK G4.out 0 (frV (decide (q.num<0)) aq kq cq false aq2 kq2 cq2),fun b off e=>Nat.le_trans LO.out (G1.out b off e),fun b off e=>Nat.le_trans LO.out (G2.out b off e)⟩,⟨fun p b off e q=>G3.out p b off e (by cases q;rfl),fun p b off e q=>G4.out p b off e (by cases q;rfl)⟩,LB.out.trans (bb.mono LO.out)⟩)
    clear PQ bb FF BB BQ L1 L2 G1 G2 G3 G4 NB
    go_wp2_with fail
    go_meet
    case rel=>exact⟨nf.out,rfl⟩
   ·
    clear hHeld
    go_simp
    have FA:=FF.out.alloc (frV false none 0 0 false none 0 0) 68
    have ba:=(Below.refl _ w6).alloc (Nat.le_refl _) (.cells (frV false none 0 0 false none 0 0).toArray 68)
    have NB:=Lib.hid BQ.out
    replace BB:=Lib.hid (BB.out.trans (ba.mono BQ.out))
    replace BQ:=Lib.hid (Nat.le_trans BQ.out ba.size)
    replace FF:=Lib.hid FA
    replace HS:=Lib.hid (HS.out.below ba)
    replace H6:=Lib.hid (H6.out.below ba)
    clear FA ba
    generalize w6.heap.size=bN at *
    generalize World.alloc w6 (.cells #[.bool false, .slice none 0 0, .bool false, .slice none 0 0] 68)=wn at *
    refine hK.out _ _ (⟨(FF.out.cell 1 0 rfl rfl).trans (by rw[X4.out]),FF.out.cell 1 1 rfl rfl⟩) (fun hHeld=>?_)
    clear hK
    try simp only[Act.put,Lw.s1,Lw.s2,Lw.s3]
    refine TillSt.nx [2] ?_
    refine NextSt.cons rfl (fun K' hK=>?_) NextSt.nil
    clear hHeld
    go_simp
    refine(MK.out _ V6 _ (wide0 HS.out) H6.out).mono ?_
    rintro e w7 ⟨V,rfl,⟨aq,kq,cq,aq2,kq2,cq2,rfl,l1,l2,f1,f2⟩,hb⟩
    have fq:=(FF.out.least 0 rfl).2
    have G1:=Lib.hid (fun b off e=>Nat.le_trans BQ.out (f1 b off e))
    have G2:=Lib.hid (fun b off e=>Nat.le_trans BQ.out (f2 b off e))
    have G3:=Lib.hid (fun (_:0<kq) b off e=>(Nat.ne_of_lt (Nat.lt_of_lt_of_le fq (f1 b off e))).symm)
    have G4:=Lib.hid (fun (_:0<kq2) b off e=>(Nat.ne_of_lt (Nat.lt_of_lt_of_le fq (f2 b off e))).symm)
    clear fq
    replace FF:=Lib.hid (FF.out.call hb)
    replace BB:=Lib.hid (BB.out.trans (hb.mono BQ.out))
    replace BQ:=Lib.hid (Nat.le_trans BQ.out hb.size)
    have L1:=Lib.hid l1
    have L2:=Lib.hid l2
    clear l1 l2 f1 f2 hb H6 HS
    refine hK.out _ _ (⟨(FF.out.cell 1 0 rfl rfl).trans (by rw[X4.out]),FF.out.cell 1 1 rfl rfl⟩) (fun hHeld=>?_)
    clear hK
    try simp only[Act.put,Lw.s1,Lw.s2,Lw.s3]
    refine TillSt.tP 3 (fun _=>hHeld) ?_
    refine TillSt.tP 4 (fun _=>hHeld) ?_
    refine TillSt.tP 5 (fun _=>hHeld) ?_
    refine TillSt.nx [7] ?_
    refine NextSt.last rfl (by kernel_rfl) (fun K' hK=>?_) NextSt.nil
    obtain⟨s0,s1,s2,s3⟩:=FF.out.c4 0 rfl
    obtain⟨s4,s5,s6,s7⟩:=FF.out.f4 0 rfl
    clear hHeld
    go_simp
    clear s0 s1 s2 s3 s4 s5 s6 s7
    refine hK.out _ _ ?_
    clear hK
    try simp only[Act.put,Lw.s1,Lw.s2,Lw.s3]
    refine TillSt.tP 8 (fun q=>by cases q) ?_
    refine TillSt.done (by kernel_rfl) ?_ _
    have PQ:=FF.out.put 0 rfl (frV (decide (q.num<0)) aq kq cq false aq2 kq2 cq2) rfl
    have bb:=below_setCells bN NB.out (frV (decide (q.num<0)) aq kq cq false aq2 kq2 cq2) 0 _ BB.out
    have nf:=Lib.hid (show NewF _ _ _ q (.pointer (some ⟨bN,0,none⟩)) _ from⟨bN,⟨decide (q.num<0),aq,kq,cq,aq2,kq2,cq2⟩,rfl,Nat.le_trans LO.out NB.out,PQ,⟨rfl,L1.out.setCellsK G3.out 0 (frV (decide (q.num<0)) aq kq cq false aq2 kq2 cq2),L2.out.setCellsK G4.out 0 (frV (decide (q.num<0)) aq kq cq false aq2 kq2 cq2),fun b off e=>Nat.le_trans LO.out (G1.out b off e),fun b off e=>Nat.le_trans LO.out (G2.out b off e)⟩,⟨fun p b off e q=>G3.out p b off e (by cases q;rfl),fun p b off e q=>G4.out p b off e (by cases q;rfl)⟩,LB.out.trans (bb.mono LO.out)⟩)
    clear PQ bb FF BB BQ L1 L2 G1 G2 G3 G4 NB
    go_wp2_with fail
    go_meet
    case rel=>exact⟨nf.out,rfl⟩
  ·
   clear hHeld
   go_simp
   have FA:=FF.out.alloc (frV false none 0 0 false none 0 0) 68
   have ba:=(Below.refl _ wd).alloc (Nat.le_refl _) (.cells (frV false none 0 0 false none 0 0).toArray 68)
   have NB:=Lib.hid BQ.out
   replace BB:=Lib.hid (BB.out.trans (ba.mono BQ.out))
   replace BQ:=Lib.hid (Nat.le_trans BQ.out ba.size)
   replace FF:=Lib.hid FA
   replace HS:=Lib.hid (HS.out.below ba)
   clear FA ba
   generalize wd.heap.size=bN at *
   generalize World.alloc wd (.cells #[.bool false, .slice none 0 0, .bool false, .slice none 0 0] 68)=wn at *
   refine hK.out _ _ (⟨(FF.out.cell 1 0 rfl rfl).trans (by rw[X4.out]),FF.out.cell 1 1 rfl rfl⟩) (fun hHeld=>?_)
   clear hK
   try simp only[Act.put,Lw.s1,Lw.s2,Lw.s3]
   refine TillSt.nx [1] ?_
   refine NextSt.cons rfl (fun K' hK=>?_) NextSt.nil
   clear hHeld
   go_simp
   refine(from_walk 86400000000 _ (by decide) (by decide)).mono ?_
   rintro e w6 ⟨V6,rfl,hV,hb⟩
   replace FF:=Lib.hid (FF.out.call hb)
   replace HS:=Lib.hid (HS.out.below hb)
   replace BB:=Lib.hid (BB.out.trans (hb.mono BQ.out))
   replace BQ:=Lib.hid (Nat.le_trans BQ.out hb.size)
   have H6:=Lib.hid (show Wide 0 w6 V6 ((86400000000:Nat):Int) from hV.mono (Nat.zero_le _))
   clear hV hb
   refine hK.out _ _ (⟨(FF.out.cell 1 0 rfl rfl).trans (by rw[X4.out]),FF.out.cell 1 1 rfl rfl⟩) (fun hHeld=>?_)
   clear hK
   try simp only[Act.put,Lw.s1,Lw.s2,Lw.s3]
   refine TillSt.nx [2] ?_
   refine NextSt.cons rfl (fun K' hK=>?_) NextSt.nil
   clear hHeld
   go_simp
   refine(MK.out _ V6 _ (wide0 HS.out) H6.out).mono ?_
   rintro e w7 ⟨V,rfl,⟨aq,kq,cq,aq2,kq2,cq2,rfl,l1,l2,f1,f2⟩,hb⟩
   have fq:=(FF.out.least 0 rfl).2
   have G1:=Lib.hid (fun b off e=>Nat.le_trans BQ.out (f1 b off e))
   have G2:=Lib.hid (fun b off e=>Nat.le_trans BQ.out (f2 b off e))
   have G3:=Lib.hid (fun (_:0<kq) b off e=>(Nat.ne_of_lt (Nat.lt_of_lt_of_le fq (f1 b off e))).symm)
   have G4:=Lib.hid (fun (_:0<kq2) b off e=>(Nat.ne_of_lt (Nat.lt_of_lt_of_le fq (f2 b off e))).symm)
   clear fq
   replace FF:=Lib.hid (FF.out.call hb)
   replace BB:=Lib.hid (BB.out.trans (hb.mono BQ.out))
   replace BQ:=Lib.hid (Nat.le_trans BQ.out hb.size)
   have L1:=Lib.hid l1
   have L2:=Lib.hid l2
   clear l1 l2 f1 f2 hb H6 HS
   refine hK.out _ _ (⟨(FF.out.cell 1 0 rfl rfl).trans (by rw[X4.out]),FF.out.cell 1 1 rfl rfl⟩) (fun hHeld=>?_)
   clear hK
   try simp only[Act.put,Lw.s1,Lw.s2,Lw.s3]
   refine TillSt.tP 3 (fun _=>hHeld) ?_
   refine TillSt.tP 4 (fun _=>hHeld) ?_
   refine TillSt.tP 5 (fun _=>hHeld) ?_
   refine TillSt.nx [7] ?_
   refine NextSt.last rfl (by kernel_rfl) (fun K' hK=>?_) NextSt.nil
   obtain⟨s0,s1,s2,s3⟩:=FF.out.c4 0 rfl
   obtain⟨s4,s5,s6,s7⟩:=FF.out.f4 0 rfl
   clear hHeld
   go_simp
   clear s0 s1 s2 s3 s4 s5 s6 s7
   refine hK.out _ _ ?_
   clear hK
   try simp only[Act.put,Lw.s1,Lw.s2,Lw.s3]
   refine TillSt.tP 8 (fun q=>by cases q) ?_
   refine TillSt.done (by kernel_rfl) ?_ _
   have PQ:=FF.out.put 0 rfl (frV (decide (q.num<0)) aq kq cq false aq2 kq2 cq2) rfl
   have bb:=below_setCells bN NB.out (frV (decide (q.num<0)) aq kq cq false aq2 kq2 cq2) 0 _ BB.out
   have nf:=Lib.hid (show NewF _ _ _ q (.pointer (some ⟨bN,0,none⟩)) _ from⟨bN,⟨decide (q.num<0),aq,kq,cq,aq2,kq2,cq2⟩,rfl,Nat.le_trans LO.out NB.out,PQ,⟨rfl,L1.out.setCellsK G3.out 0 (frV (decide (q.num<0)) aq kq cq false aq2 kq2 cq2),L2.out.setCellsK G4.out 0 (frV (decide (q.num<0)) aq kq cq false aq2 kq2 cq2),fun b off e=>Nat.le_trans LO.out (G1.out b off e),fun b off e=>Nat.le_trans LO.out (G2.out b off e)⟩,⟨fun p b off e q=>G3.out p b off e (by cases q;rfl),fun p b off e q=>G4.out p b off e (by cases q;rfl)⟩,LB.out.trans (bb.mono LO.out)⟩)
   clear PQ bb FF BB BQ L1 L2 G1 G2 G3 G4 NB
   go_wp2_with fail
   go_meet
   case rel=>exact⟨nf.out,rfl⟩

 case rest =>
  obtain⟨⟨b,y,rfl,hbl,hF,hy,ho,hb⟩,rfl⟩:=hcut
  have hx':=HX.out.below hb
  obtain⟨a0,a1,a2,a3⟩:=hF.c4 0 rfl
  obtain⟨c0,c1,c2,c3⟩:=hF.c4 2 rfl
  have HA:=Lib.hid (AD.out _ _ _ (hx'.frac.mono (Nat.zero_le _)) (hy.frac.mono (Nat.zero_le _)))
  have FF:=Lib.hid hF
  clear hx' hy ho hb hF hbl AD HX H4 F2
  go_wp2_with fail
  clear a0 a1 a2 a3 c0 c1 c2 c3
  refine HA.out.mono ?_
  rintro e w6 ⟨V6,rfl,hV,hb⟩
  obtain⟨x6,rfl,hx6⟩:=hV.cells
  have F6:=FF.out.call hb
  have lo:=(FF.out.least 2 rfl).2
  obtain⟨c0,c1,c2,c3⟩:=F6.c4 2 rfl
  obtain⟨f0,f1,f2,f3⟩:=F6.f4 2 rfl
  have F7:=Lib.hid (F6.put 2 rfl (fcE x6) rfl)
  have HR:=Lib.hid (RD.out _ _ ((hx6.frac.sets w1.heap.size lo 0 (fcE x6)).mono (Nat.zero_le _)))
  clear hV hx6 hb F6 FF HA lo RD
  go_wp2_with fail
  refine HR.out.mono ?_
  rintro e w7 ⟨rfl,hb⟩
  have B:=Lib.hid (F7.out.call hb).below
  clear hb F7 HR
  go_wp2_with fail
  exact bodyPost_ret (results_tmp2 rfl _ _ _) rfl ⟨rfl,B.out⟩
end Wd
namespace Wd
open Go.RowKit Lw Tw

def alongE (m:Mo.Mv) (t:Int):Int×Int×Int :=
 if m.ra<0∨1296000000000≤m.ra∨¬ Mo.inR m then(0,0,8) else
 if 8640000000000<max m.t t-min m.t t then(0,0,2) else
 if (intE (Ls.roundR (mvR m.ra m.dra (t-m.t)))).2≠0 then(0,0,(intE (Ls.roundR (mvR m.ra m.dra (t-m.t)))).2) else
 if (intE (Ls.roundR (mvR m.dec m.ddec (t-m.t)))).2≠0 then(0,0,(intE (Ls.roundR (mvR m.dec m.ddec (t-m.t)))).2) else
 if (intE (Ls.roundR (mvR m.dec m.ddec (t-m.t)))).1 < -324000000000∨324000000000<(intE (Ls.roundR (mvR m.dec m.ddec (t-m.t)))).1 then(0,0,16) else
 ((intE (Ls.roundR (mvR m.ra m.dra (t-m.t)))).1 % 1296000000000,(intE (Ls.roundR (mvR m.dec m.ddec (t-m.t)))).1,0)
theorem intE_in (z:Int):-9223372036854775808≤(intE z).1∧(intE z).1≤9223372036854775807:=by
 rcases intE_cases z with⟨e,h⟩|⟨e,h⟩ <;> rw[e] <;> dsimp only <;> omega
theorem u64_diff {a b:Int} (ha:-9223372036854775808≤a∧a≤9223372036854775807) (hb:-9223372036854775808≤b∧b≤9223372036854775807) (h:a≤b):IntKind.u64.wrap (IntKind.u64.wrap b-IntKind.u64.wrap a)=b-a:=by
 simp only[IntKind.wrap_u64]
 omega
theorem along_any (s:ByteArray) (m:Mo.Mv) (t:Int) (w:World) (hm:-9223372036854775808≤m.t∧m.t≤9223372036854775807) (ht:-9223372036854775808≤t∧t≤9223372036854775807) (hd:-9223372036854775808≤m.dec∧m.dec<9223372036854775808) (hr:-9223372036854775808≤m.dra∧m.dra<9223372036854775808) (hq:-9223372036854775808≤m.ddec∧m.ddec<9223372036854775808) (ha:-9223372036854775808≤m.ra∧m.ra<9223372036854775808) :
  Calls Tryz.prog 21 #[atV s m, .int .i64 t] w fun e w'=>e = .returned (.tuple #[.int .i64 (alongE m t).1, .int .i64 (alongE m t).2.1, .int .i64 (alongE m t).2.2])∧Below w.heap.size w w':=by
 have F0:=Lib.hid ((Fr.start w).alloc (atC s m) 44)
 have IR:=Lib.hid (fun w'=>inrange_any s m w')
 by_cases h1:m.ra<0
 ·have em:alongE m t=(0,0,8):=by unfold alongE;rw[if_pos (Or.inl h1)]
  rw[em]
  obtain⟨mt,ra,dec,dra,ddec⟩:=m
  dsimp only at *
  clear em hm ht hd hr hq ha IR
  go_enter Tryz.func21,Tryz.ntmps21
  go_wp2_with fail
  refine bodyPost_ret (results_tmp3 rfl _ _ _) rfl ?_
  exact⟨rfl,F0.out.below⟩
 ·by_cases h2:1296000000000≤m.ra
  ·have em:alongE m t=(0,0,8):=by unfold alongE;rw[if_pos (Or.inr (Or.inl h2))]
   rw[em]
   obtain⟨mt,ra,dec,dra,ddec⟩:=m
   dsimp only at *
   clear em hm ht hd hr hq ha IR
   go_enter Tryz.func21,Tryz.ntmps21
   go_wp2_with fail
   refine bodyPost_ret (results_tmp3 rfl _ _ _) rfl ?_
   exact⟨rfl,F0.out.below⟩
  ·by_cases h3:Mo.inR m
   ·skip
    rw[decide_eq_true h3] at IR
    obtain⟨hi,hhi⟩:∃ z,z=max m.t t:=⟨_,rfl⟩
    obtain⟨lo,hlo⟩:∃ z,z=min m.t t:=⟨_,rfl⟩
    have b1:-9223372036854775808≤hi∧hi≤9223372036854775807:=by omega
    have b2:-9223372036854775808≤lo∧lo≤9223372036854775807:=by omega
    have wu:=u64_diff b2 b1 (by omega)
    have EM:alongE m t=if 8640000000000<hi-lo then(0,0,2) else
      if (intE (Ls.roundR (mvR m.ra m.dra (t-m.t)))).2≠0 then(0,0,(intE (Ls.roundR (mvR m.ra m.dra (t-m.t)))).2) else
      if (intE (Ls.roundR (mvR m.dec m.ddec (t-m.t)))).2≠0 then(0,0,(intE (Ls.roundR (mvR m.dec m.ddec (t-m.t)))).2) else
      if (intE (Ls.roundR (mvR m.dec m.ddec (t-m.t)))).1 < -324000000000∨324000000000<(intE (Ls.roundR (mvR m.dec m.ddec (t-m.t)))).1 then(0,0,16) else
      ((intE (Ls.roundR (mvR m.ra m.dra (t-m.t)))).1 % 1296000000000,(intE (Ls.roundR (mvR m.dec m.ddec (t-m.t)))).1,0):=by
     unfold alongE
     rw[if_neg (fun q=>by rcases q with q|q|q <;> first|exact h1 q|exact h2 q|exact q h3),hhi,hlo]
    by_cases far:8640000000000<hi-lo
    ·have em:alongE m t=(0,0,2):=by rw[EM,if_pos far]
     rw[em]
     obtain⟨mt,ra,dec,dra,ddec⟩:=m
     dsimp only at *
     clear EM em hm ht hd hr hq ha h3
     go_enter Tryz.func21,Tryz.ntmps21
     go_upto_region 3 with(go_at_call 50;refine(IR.out _).mono ?_;rintro e w1 ⟨rfl,hb⟩;have FF:=Lib.hid (F0.out.call hb);clear hb)
     clear F0 IR
     replace FF:=Lib.hid FF.out.drew
     refine TillSt.start (fun w'=>w'.cell? ⟨w.heap.size,1,none⟩=some (.int .i64 mt)) 9 (by kernel_rfl) (FF.out.cell 0 1 rfl rfl) (fun hHeld=>?_)
     generalize w1.drew=wd at *
     refine TillSt.tP 0 (fun _=>hHeld) ?_
     refine TillSt.tL 1 hHeld (hy:=Or.inl ⟨by rfl,by intro w hSw;skip;go_simp;try with_reducible rfl⟩) (h:=?_)
     refine TillSt.tP 2 (fun _=>hHeld) ?_
     refine TillSt.tP 3 (fun _=>hHeld) ?_
     refine TillSt.tP 4 (fun _=>hHeld) ?_
     refine TillSt.tL 5 hHeld (hy:=Or.inl ⟨by rfl,by intro w hSw;skip;go_simp;try with_reducible rfl⟩) (h:=?_)
     refine TillSt.tP 6 (fun _=>hHeld) ?_
     refine TillSt.tP 7 (fun _=>hHeld) ?_
     refine TillSt.tP 8 (fun _=>hHeld) ?_
     refine TillSt.nx [9] ?_
     refine NextSt.last rfl (by kernel_rfl) (fun K' hK=>?_) NextSt.nil
     clear hHeld
     go_simp
     refine hK.out _ _ ?_
     clear hK
     try simp only[Act.put,Lw.s1,Lw.s2,Lw.s3]
     refine TillSt.done (by kernel_rfl) ?_ _
     rw[← hhi,← hlo]
     clear hhi hlo
     go_wp2_with fail
     refine bodyPost_ret (results_tmp3 rfl _ _ _) rfl ?_
     exact⟨rfl,FF.out.below⟩
    ·have bt:-9223372036854775808≤t-m.t∧t-m.t<9223372036854775808:=by omega
     have wt:IntKind.i64.wrap (t-m.t)=t-m.t:=by rw[IntKind.wrap_i64];omega
     have M1:=Lib.hid (fun w'=>moved_any m.ra m.dra (t-m.t) w' ha hr bt)
     have M2:=Lib.hid (fun w'=>moved_any m.dec m.ddec (t-m.t) w' hd hq bt)
     have bi:=intE_in (Ls.roundR (mvR m.ra m.dra (t-m.t)))
     rw[if_neg far] at EM
     generalize Ls.roundR (mvR m.ra m.dra (t-m.t))=za at *
     generalize Ls.roundR (mvR m.dec m.ddec (t-m.t))=zd at *
     obtain⟨a1,e1⟩:∃ z,z=(intE za).1:=⟨_,rfl⟩
     obtain⟨a2,e2⟩:∃ z,z=(intE za).2:=⟨_,rfl⟩
     obtain⟨d1,e3⟩:∃ z,z=(intE zd).1:=⟨_,rfl⟩
     obtain⟨d2,e4⟩:∃ z,z=(intE zd).2:=⟨_,rfl⟩
     rw[← e1,← e2] at M1
     rw[← e3,← e4] at M2
     rw[← e1,← e2,← e3,← e4] at EM
     rw[← e1] at bi
     have NM:=Lib.hid (fun w'=>Turns.norm_any a1 w' bi.1 bi.2)
     obtain⟨R,hR⟩:∃ z,z=a1 % 1296000000000:=⟨_,rfl⟩
     rw[← hR] at NM EM
     obtain⟨q,hq'⟩:∃ q,q=alongE m t:=⟨_,rfl⟩
     rw[← hq'] at EM ⊢
     obtain⟨mt,ra,dec,dra,ddec⟩:=m
     dsimp only at *
     replace EM:=Lib.hid EM
     clear hm ht hd hr hq ha h3 e1 e2 e3 e4 bi hR hq' b1 b2
     go_enter Tryz.func21,Tryz.ntmps21
     go_upto_region 3 with(go_at_call 50;refine(IR.out _).mono ?_;rintro e w1 ⟨rfl,hb⟩;have FF:=Lib.hid (F0.out.call hb);clear hb)
     clear F0 IR
     replace FF:=Lib.hid FF.out.drew
     refine TillSt.start (fun w'=>w'.cell? ⟨w.heap.size,1,none⟩=some (.int .i64 mt)) 9 (by kernel_rfl) (FF.out.cell 0 1 rfl rfl) (fun hHeld=>?_)
     generalize w1.drew=wd at *
     refine TillSt.tP 0 (fun _=>hHeld) ?_
     refine TillSt.tL 1 hHeld (hy:=Or.inl ⟨by rfl,by intro w hSw;skip;go_simp;try with_reducible rfl⟩) (h:=?_)
     refine TillSt.tP 2 (fun _=>hHeld) ?_
     refine TillSt.tP 3 (fun _=>hHeld) ?_
     refine TillSt.tP 4 (fun _=>hHeld) ?_
     refine TillSt.tL 5 hHeld (hy:=Or.inl ⟨by rfl,by intro w hSw;skip;go_simp;try with_reducible rfl⟩) (h:=?_)
     refine TillSt.tP 6 (fun _=>hHeld) ?_
     refine TillSt.tP 7 (fun _=>hHeld) ?_
     refine TillSt.tP 8 (fun _=>hHeld) ?_
     refine TillSt.nx [9] ?_
     refine NextSt.last rfl (by kernel_rfl) (fun K' hK=>?_) NextSt.nil
     clear hHeld
     go_simp
     refine hK.out _ _ ?_
     clear hK
     try simp only[Act.put,Lw.s1,Lw.s2,Lw.s3]
     refine TillSt.done (by kernel_rfl) ?_ _
     rw[← hhi,← hlo]
     clear hhi hlo
     have c1:=FF.out.cell 0 1 rfl rfl
     have c2:=FF.out.cell 0 2 rfl rfl
     have c4:=FF.out.cell 0 4 rfl rfl
     go_wp2_with fail
     clear c1 c2 c4 wu
     refine(M1.out _).mono ?_
     rintro e w2 ⟨rfl,hb⟩
     replace FF:=Lib.hid (FF.out.call hb)
     clear hb M1
     by_cases h4:a2=0
     ·subst h4
      have c1:=FF.out.cell 0 1 rfl rfl
      have c3:=FF.out.cell 0 3 rfl rfl
      have c5:=FF.out.cell 0 5 rfl rfl
      go_wp2_with fail
      clear c1 c3 c5
      refine(M2.out _).mono ?_
      rintro e w3 ⟨rfl,hb⟩
      replace FF:=Lib.hid (FF.out.call hb)
      clear hb M2
      by_cases h5:d2=0
      ·subst h5
       by_cases h6:d1 < -324000000000
       ·have em:q=(0,0,16):=by rw[EM.out,if_neg (by simp),if_neg (by simp),if_pos (Or.inl h6)]
        subst em
        clear EM
        go_wp2_with fail
        refine bodyPost_ret (results_tmp3 rfl _ _ _) rfl ?_
        exact⟨rfl,FF.out.below⟩
       ·by_cases h7:324000000000<d1
        ·have em:q=(0,0,16):=by rw[EM.out,if_neg (by simp),if_neg (by simp),if_pos (Or.inr h7)]
         subst em
         clear EM
         go_wp2_with fail
         refine bodyPost_ret (results_tmp3 rfl _ _ _) rfl ?_
         exact⟨rfl,FF.out.below⟩
        ·have em:q=(R,d1,0):=by rw[EM.out,if_neg (by simp),if_neg (by simp),if_neg (fun x=>by rcases x with x|x <;> contradiction)]
         subst em
         clear EM
         go_wp2_with (go_at_call 49;refine(NM.out _).mono ?_;rintro e w' ⟨rfl,hw⟩;subst hw)
         refine bodyPost_ret (results_tmp3 rfl _ _ _) rfl ?_
         exact⟨rfl,FF.out.below⟩
      ·have h5b:(d2==0)=false:=by simpa using h5
       have em:q=(0,0,d2):=by rw[EM.out,if_neg (by simp),if_pos h5]
       subst em
       clear EM
       go_wp2_with fail
       refine bodyPost_ret (results_tmp3 rfl _ _ _) rfl ?_
       exact⟨rfl,FF.out.below⟩
     ·have h4b:(a2==0)=false:=by simpa using h4
      have em:q=(0,0,a2):=by rw[EM.out,if_pos h4]
      subst em
      clear EM
      go_wp2_with fail
      refine bodyPost_ret (results_tmp3 rfl _ _ _) rfl ?_
      exact⟨rfl,FF.out.below⟩
   ·have em:alongE m t=(0,0,8):=by unfold alongE;rw[if_pos (Or.inr (Or.inr h3))]
    rw[em]
    rw[decide_eq_false h3] at IR
    obtain⟨mt,ra,dec,dra,ddec⟩:=m
    dsimp only at *
    clear em hm ht hd hr hq ha h3
    go_enter Tryz.func21,Tryz.ntmps21
    go_wp2_with (go_at_call 50;refine(IR.out _).mono ?_;rintro e w' ⟨rfl,hb⟩;have B:=Lib.hid (F0.out.call hb).below;clear hb)
    refine bodyPost_ret (results_tmp3 rfl _ _ _) rfl ?_
    exact⟨rfl,B.out⟩
end Wd
namespace Tw
open Go.RowKit Lw Tk Wd Go.Proofs.YtdnogmanbdgadaaGreatDoor.Ap Go.Proofs.YtdnogmanbdgadaaGreatDoor.Op Go.Proofs.YtdnogmanbdgadaaGreatDoor.Mp Go.Proofs.YtdnogmanbdgadaaGreatDoor.Mw Go.Proofs.YtdnogmanbdgadaaGreatDoor.At Go.Proofs.YtdnogmanbdgadaaGreatDoor.Ow

def zQ:Ob:=⟨⟨#[]⟩,⟨#[]⟩,0,0,0,0,0,0⟩
def zC (n:Nat):Array Value:=madeCells (obsC zQ).toArray (n*8)
theorem info8f:(Tryz.prog.info? 31).map (fun i=>(i.zero,i.size,i.bytes))=some (some (.agg (obsC zQ).toArray),8,80):=by kernel_rfl
theorem make_O (n:Nat) (hn:n≤2000) (w:World):(Instr.makeSlice 22 (.int .i64 (n:Int)) (.int .i64 (n:Int))).run Tryz.prog w = .ok (.slice (some ⟨w.heap.size,0,none⟩) n n) (w.alloc (.cells (zC n) 31)):=by
 obtain⟨i,hi,hzz⟩:=Option.map_eq_some_iff.1 info8f
 simp only[Prod.mk.injEq] at hzz
 obtain⟨hz,hs,hb⟩:=hzz
 have h:=run_make (P:=Tryz.prog) w 22 31 i _ Tryz.underlying22 hi hz .i64 .i64 (n:Int) (n:Int) (by omega) (Int.le_refl _) (by rw[hb];omega) (by omega)
 rw[hs,Int.toNat_natCast] at h
 exact h
theorem zC_get (n i j:Nat) (v:Value) (hi:i<n) (h:(obsC zQ)[j]? = some v):(zC n)[i*8+j]? = some v:=by
 have hj:j<8:=by
  have h8:(obsC zQ).length=8:=rfl
  have:=(List.getElem?_eq_some_iff.1 h).1
  omega
 have hz:(obsC zQ).toArray.size=8:=rfl
 have hl:i*8+j<n*8:=by omega
 unfold zC madeCells
 rw[Array.getElem?_map,hz]
 rw[show (Array.range (n*8))[i*8+j]? = some (i*8+j) by simp[hl]]
 show some ((obsC zQ).toArray[(i*8+j) % 8]!)=some v
 rw[show (i*8+j) % 8=j by omega]
 have:(obsC zQ).toArray[j]? = some v:=by simpa using h
 rw[getElem!_def,this]
theorem zeros_at (w:World) (n:Nat):SlA (w.alloc (.cells (zC n) 31)) (some ⟨w.heap.size,0,none⟩) (List.replicate n zQ):=by
 refine Or.inr ⟨w.heap.size,0,rfl,by simp,fun i hi j v hv=>?_⟩
 rw[List.length_replicate] at hi
 rw[List.getElem_replicate] at hv
 rw[World.cell?_alloc_at _ _ _ _ rfl,Nat.zero_add]
 exact zC_get n i j v hi hv
theorem zeros_ob (n:Nat):OBs (List.replicate n zQ):=fun i hi=>by
 rw[List.getElem_replicate]
 exact⟨by decide,by decide,by decide,by decide,by decide,by decide⟩
def oS (t ra:Int):Ob:=⟨⟨#[97]⟩,⟨#[53,48,48]⟩,t,ra,0,1,9999,32⟩
def lTwo:List Ob:=[oG 848070069184000 1000,oS 848073669184000 1100,oG 848080869184000 1300]
def lOver:List Ob:=[oG 848070069184000 1295999999900,oG 848073669184000 0,oG 848080869184000 200]
def lFar:List Ob:=[oG 848070069184000 1000,oG 848073669184000 0,oG 848253669184000 1300]
def lFast:List Ob:=[oG 848070069184000 1000,oG 848070069184000 0,oG 848070069184001 648000000000]
def uSlow:Rl:=⟨3600000000,14400000000,2399,10,3⟩
def uFew:Rl:=⟨3600000000,14400000000,10000,10,2⟩
def uZero:Rl:=⟨0,0,0,0,0⟩
theorem nm_two:KF lTwo uG = []∧stT lTwo uG=0:=⟨by decide +kernel,by decide +kernel⟩
theorem nm_slow:pairsL (lG 1100) uSlow = []∧stT (lG 1100) uSlow=0:=⟨by decide +kernel,by decide +kernel⟩
theorem nm_few:KF (lG 1111) uFew = [[0,1],[0,2],[1,2]]∧stT (lG 1111) uFew=0:=⟨by decide +kernel,by decide +kernel⟩
theorem nm_over:(motE lOver).2.1.ra=50∧(motE lOver).2.1.dra=2400∧(motE lOver).2.2=0:=⟨by decide +kernel,by decide +kernel,by decide +kernel⟩
theorem nm_nil:(motE []).2.2=22:=by decide +kernel
theorem nm_mot2:(motE lTwo).2.2=2:=by decide +kernel
theorem nm_first:(motE [oG 848070069184000 1000]).2.2=22:=by decide +kernel
theorem nm_far:(motE lFar).2.2=2:=by decide +kernel
theorem nm_fast:(motE lFast).2.2=16:=by decide +kernel
theorem mot_bad {l:List Ob} (h:allT l≠0):(motE l).2.2=allT l:=by
 unfold motE
 rw[if_pos h]
theorem nm_many:allT (List.replicate 201 zQ)=4:=allT_many (by rw[List.length_replicate];omega)
theorem nm_one:allT (List.replicate 1 zQ)=8:=allT_bad (i:=0) (by decide) (by decide) (by decide)
theorem nm_zero:stT (lG 0) uZero=8:=by decide +kernel
theorem nm_long:stT (List.replicate 201 zQ) uG=4:=by
 unfold stT
 rw[nm_many,if_neg (by decide)]
theorem nm_a1:alongE ⟨0, -1,0,0,0⟩ 0=(0,0,8):=Prod.ext (by decide +kernel) (Prod.ext (by decide +kernel) (by decide +kernel))
theorem nm_a2:alongE ⟨-1,0,0,0,0⟩ 8640000000000=(0,0,2):=Prod.ext (by decide +kernel) (Prod.ext (by decide +kernel) (by decide +kernel))
theorem nm_a3:alongE ⟨0,0,324000000000,0,1⟩ 86400000000=(0,0,16):=Prod.ext (by decide +kernel) (Prod.ext (by decide +kernel) (by decide +kernel))
theorem nm_a4:alongE ⟨0,5, -7, -3,2⟩ 8640000000000=(1295999999705,193,0):=Prod.ext (by decide +kernel) (Prod.ext (by decide +kernel) (by decide +kernel))
end Tw
namespace Tw
open Go.RowKit Lw Tk Wd Go.Proofs.YtdnogmanbdgadaaGreatDoor.Ap Go.Proofs.YtdnogmanbdgadaaGreatDoor.Op Go.Proofs.YtdnogmanbdgadaaGreatDoor.Mp Go.Proofs.YtdnogmanbdgadaaGreatDoor.Mw Go.Proofs.YtdnogmanbdgadaaGreatDoor.At Go.Proofs.YtdnogmanbdgadaaGreatDoor.Ow

def gC (s:Int):List Value:=[.string ⟨#[97]⟩, .string ⟨#[70,53,49]⟩, .int .i64 848070069184000, .int .i64 1000, .int .i64 0, .int .i64 1, .int .i64 9999, .int .u8 32, .string ⟨#[97]⟩, .string ⟨#[70,53,49]⟩, .int .i64 848073669184000, .int .i64 s, .int .i64 0, .int .i64 1, .int .i64 9999, .int .u8 32, .string ⟨#[97]⟩, .string ⟨#[70,53,49]⟩, .int .i64 848080869184000, .int .i64 1300, .int .i64 0, .int .i64 1, .int .i64 9999, .int .u8 32]
theorem Fr.add {w0 w w':World} {L:List (Nat×List Value)} (h:Fr w0 L w) (hb:Below w.heap.size w w') {b:Nat} (lo:w.heap.size≤b) (lt:b<w'.heap.size) {vs:List Value} (hr:w'.rangeAt b 0 vs) (ht:w'.there b 0 vs.length):Fr w0 ((b,vs)::L) w':=by
 have h':=h.call hb
 refine⟨h'.below,fun p hp=>?_,fun p hp=>?_,?_,fun p hp=>?_,fun p hp=>?_⟩
 ·rcases List.mem_cons.1 hp with rfl|hp
  ·exact Nat.le_trans h.below.size lo
  ·exact h.lo p hp
 ·rcases List.mem_cons.1 hp with rfl|hp
  ·exact lt
  ·exact h'.hi p hp
 ·rw[List.map_cons,List.nodup_cons]
  refine⟨fun hm=>?_,h.nd⟩
  obtain⟨p,hp,e⟩:=List.mem_map.1 hm
  have:=h.hi p hp
  simp only at e
  omega
 ·rcases List.mem_cons.1 hp with rfl|hp
  ·exact hr
  ·exact h'.row p hp
 ·rcases List.mem_cons.1 hp with rfl|hp
  ·exact ht
  ·exact h'.th p hp
theorem sla_three {w:World} {b:Nat} {a c d:Ob} {vs:List Value} (lt:b<w.heap.size) (h:w.rangeAt b 0 vs) (e:vs=obsC a++(obsC c++obsC d)):SlA w (some ⟨b,0,none⟩) [a,c,d]:=Or.inr ⟨b,0,rfl,lt,obs_three (e ▸ h)⟩
theorem sla_first {w:World} {b:Nat} {a c d:Ob} (h:SlA w (some ⟨b,0,none⟩) [a,c,d]):SlA w (some ⟨b,0,none⟩) [a]:=by
 rcases h with h|⟨b',off,e,lt,r⟩
 ·cases h
 ·refine Or.inr ⟨b',off,e,lt,fun i hi=>?_⟩
  obtain rfl:i=0:=by simp at hi;omega
  exact r 0 (by simp)
theorem given2_any (s:Int) (w:World):Calls Tryz.prog 20 #[.int .i64 s] w fun e w'=>∃ b,w.heap.size≤b∧e = .returned (.slice (some ⟨b,0,none⟩) 3 3)∧w'.rangeAt b 0 (gC s)∧w'.there b 0 24∧Below w.heap.size w w'∧b<w'.heap.size:=by
 have PA:=Lib.hid (fun w'=>Ap.parse_any tG w' (by decide))
 have F0:=Lib.hid (Fr.start w)
 go_enter Tryz.func20,Tryz.ntmps20
 go_upto_region 3 with(go_at_call 51;refine(PA.out _).mono ?_;rintro e w1 ⟨t,c,rfl,hP,hb⟩;obtain⟨rfl,rfl⟩:=hP.uniq k_timeG;have F1:=(F0.out.call hb);have F2:=Lib.hid (F1.alloc [.string ⟨#[97]⟩, .string ⟨#[70,53,49]⟩, .int .i64 848070069184000, .int .i64 1000, .int .i64 0, .int .i64 1, .int .i64 9999, .int .u8 32] 31);clear hP hb F0 PA F1)
 generalize World.alloc w1 _=w2 at *
 replace F2:=Lib.hid F2.out.drew
 refine TillSt.start (fun w'=>w'.rangeAt w1.heap.size 0 (obsC (oG 848070069184000 1000))) 5 (by kernel_rfl) (F2.out.get 0 rfl) (fun hHeld=>?_)
 generalize World.drew w2=wd at *
 refine TillSt.take (i:=0) (oi:=?oi0x1) (v:=?v0x1) ?hi0x1 (by kernel_rfl) (by kernel_rfl) (by kernel_rfl) (by kernel_rfl) (by kernel_rfl) ?hq0x1 ?hy0x1 hHeld (by decide) ?rest0x1
 case hi0x1=>((try simp only[List.getElem?_toArray,List.getElem?_cons_succ,List.getElem?_cons_zero]);(try rfl))
 case hq0x1=>exact fun _ _ _ h=>h
 case hy0x1 =>
  refine' yieldsIf_load_mid ?_ 31 (.tmp 5) ?_ w1.heap.size 0 ?_ [.string ⟨#[97]⟩, .string ⟨#[70,53,49]⟩, .int .i64 848070069184000, .int .i64 1000, .int .i64 0, .int .i64 1, .int .i64 9999, .int .u8 32] _ ?_ Tryz.underlying31 ?_ info8
  ·rfl
  ·rfl
  ·rfl
  ·exact fun _ h=>h
  ·rfl
 try simp only[Act.put,Lw.s1,Lw.s2,Lw.s3]
 refine TillSt.take (i:=1) (oi:=?oi1x2) (v:=?v1x2) ?hi1x2 (by kernel_rfl) (by kernel_rfl) (by kernel_rfl) (by kernel_rfl) (by kernel_rfl) ?hq1x2 ?hy1x2 hHeld (by decide) ?rest1x2
 case hi1x2=>((try simp only[List.getElem?_toArray,List.getElem?_cons_succ,List.getElem?_cons_zero]);(try rfl))
 case hq1x2=>exact fun _ _ _ h=>h
 case hy1x2 =>
  refine' yieldsIf_load_mid ?_ 31 (.tmp 5) ?_ w1.heap.size 0 ?_ [.string ⟨#[97]⟩, .string ⟨#[70,53,49]⟩, .int .i64 848070069184000, .int .i64 1000, .int .i64 0, .int .i64 1, .int .i64 9999, .int .u8 32] _ ?_ Tryz.underlying31 ?_ info8
  ·rfl
  ·rfl
  ·rfl
  ·exact fun _ h=>h
  ·rfl
 try simp only[Act.put,Lw.s1,Lw.s2,Lw.s3]
 refine TillSt.nx [2,3] ?_
 refine NextSt.cons rfl (fun K' hK=>?_) (NextSt.cons rfl (fun K' hK=>?_) NextSt.nil)
 ·skip
  clear hHeld
  go_simp
  have FA:=F2.out.alloc [.string ⟨#[]⟩, .string ⟨#[]⟩, .int .i64 0, .int .i64 0, .int .i64 0, .int .i64 0, .int .i64 0, .int .u8 0] 31
  replace F2:=Lib.hid FA
  clear FA
  have bb:=congrArg (fun n:Nat=>n) (rfl:wd.heap.size=wd.heap.size)
  clear bb
  generalize World.alloc wd _=wb at *
  refine hK.out _ _ (F2.out.get 1 rfl) (fun hHeld=>?_)
  clear hK
  try simp only[Act.put,Lw.s1,Lw.s2,Lw.s3]
  refine TillSt.nx [3] ?_
  refine NextSt.cons rfl (fun K' hK=>?_) NextSt.nil
  clear hHeld
  go_simp
  have FA:=F2.out.alloc [.string ⟨#[]⟩, .string ⟨#[]⟩, .int .i64 0, .int .i64 0, .int .i64 0, .int .i64 0, .int .i64 0, .int .u8 0] 31
  replace F2:=Lib.hid FA
  clear FA
  have bb:=congrArg (fun n:Nat=>n) (rfl:wb.heap.size=wb.heap.size)
  clear bb
  generalize World.alloc wb _=wc at *
  refine hK.out _ _ (F2.out.get 2 rfl) (fun hHeld=>?_)
  clear hK
  try simp only[Act.put,Lw.s1,Lw.s2,Lw.s3]
  refine TillSt.nx [4] ?_
  refine NextSt.cons rfl (fun K' hK=>?_) NextSt.nil
  obtain⟨s0,s1,s2,s3,s4,s5,s6,s7⟩:=F2.out.c8 1 rfl
  obtain⟨f0,f1,f2,f3,f4,f5,f6,f7⟩:=F2.out.f8 1 rfl
  clear hHeld
  go_simp
  clear s0 s1 s2 s3 s4 s5 s6 s7 f0 f1 f2 f3 f4 f5 f6 f7
  replace F2:=Lib.hid (F2.out.put 1 rfl [.string ⟨#[97]⟩, .string ⟨#[70,53,49]⟩, .int .i64 848070069184000, .int .i64 1000, .int .i64 0, .int .i64 1, .int .i64 9999, .int .u8 32] rfl)
  simp only[World.setCells,Nat.reduceAdd] at F2
  generalize World.setCell _ _ _=we at *
  refine hK.out _ _ (F2.out.get 2 rfl) (fun hHeld=>?_)
  clear hK
  try simp only[Act.put,Lw.s1,Lw.s2,Lw.s3]
  refine TillSt.nx [5] ?_
  refine NextSt.last rfl (by kernel_rfl) (fun K' hK=>?_) NextSt.nil
  obtain⟨s0,s1,s2,s3,s4,s5,s6,s7⟩:=F2.out.c8 0 rfl
  obtain⟨f0,f1,f2,f3,f4,f5,f6,f7⟩:=F2.out.f8 0 rfl
  clear hHeld
  go_simp
  clear s0 s1 s2 s3 s4 s5 s6 s7 f0 f1 f2 f3 f4 f5 f6 f7
  replace F2:=Lib.hid (F2.out.put 0 rfl [.string ⟨#[97]⟩, .string ⟨#[70,53,49]⟩, .int .i64 848070069184000, .int .i64 1000, .int .i64 0, .int .i64 1, .int .i64 9999, .int .u8 32] rfl)
  simp only[World.setCells,Nat.reduceAdd] at F2
  generalize World.setCell _ _ _=wf at *
  refine hK.out _ _ ?_
  clear hK
  try simp only[Act.put,Lw.s1,Lw.s2,Lw.s3]
  refine TillSt.done (by kernel_rfl) ?_ _
  have n1:¬ wd.heap.size=wb.heap.size:=fun q=>by
   have nd:=F2.out.nd
   simp at nd
   omega
  have a2:=F2.out.cell 1 2 rfl rfl
  have fa2:=F2.out.fz 1 2 rfl rfl
  have a3:=F2.out.cell 1 3 rfl rfl
  have fa3:=F2.out.fz 1 3 rfl rfl
  have b2:=F2.out.cell 0 2 rfl rfl
  have fb2:=F2.out.fz 0 2 rfl rfl
  have b3:=F2.out.cell 0 3 rfl rfl
  have fb3:=F2.out.fz 0 3 rfl rfl
  go_upto_region 5 with fail
  clear a2 a3 b2 b3 fa2 fa3 fb2 fb3
  replace F2:=Lib.hid ((F2.out.set2 1 (x:=.int .i64 848073669184000) (y:=.int .i64 s) rfl).set2 0 (x:=.int .i64 848080869184000) (y:=.int .i64 1300) rfl)
  generalize World.setCell _ _ _=wg at *
  obtain⟨c0,c1,c2,c3,c4,c5,c6,c7⟩:=F2.out.c8 2 rfl
  obtain⟨a0,a1,a2,a3,a4,a5,a6,a7⟩:=F2.out.c8 1 rfl
  obtain⟨b0,b1,b2,b3,b4,b5,b6,b7⟩:=F2.out.c8 0 rfl
  go_wp2_with fail
  exact bodyPost_ret (results_tmp rfl _ _ _) rfl ⟨wg.heap.size,F2.out.below.size,rfl,rangeAt_new wg (gC s) _,there_new wg _ _ _ (by simp[gC]),F2.out.below.alloc F2.out.below.size _,by simp⟩
 ·skip
  clear hHeld
  go_simp
  have FA:=F2.out.alloc [.string ⟨#[]⟩, .string ⟨#[]⟩, .int .i64 0, .int .i64 0, .int .i64 0, .int .i64 0, .int .i64 0, .int .u8 0] 31
  replace F2:=Lib.hid FA
  clear FA
  have bb:=congrArg (fun n:Nat=>n) (rfl:wd.heap.size=wd.heap.size)
  clear bb
  generalize World.alloc wd _=wb at *
  refine hK.out _ _ (F2.out.get 1 rfl) (fun hHeld=>?_)
  clear hK
  try simp only[Act.put,Lw.s1,Lw.s2,Lw.s3]
  refine TillSt.nx [2] ?_
  refine NextSt.cons rfl (fun K' hK=>?_) NextSt.nil
  clear hHeld
  go_simp
  have FA:=F2.out.alloc [.string ⟨#[]⟩, .string ⟨#[]⟩, .int .i64 0, .int .i64 0, .int .i64 0, .int .i64 0, .int .i64 0, .int .u8 0] 31
  replace F2:=Lib.hid FA
  clear FA
  have bb:=congrArg (fun n:Nat=>n) (rfl:wb.heap.size=wb.heap.size)
  clear bb
  generalize World.alloc wb _=wc at *
  refine hK.out _ _ (F2.out.get 2 rfl) (fun hHeld=>?_)
  clear hK
  try simp only[Act.put,Lw.s1,Lw.s2,Lw.s3]
  refine TillSt.nx [4] ?_
  refine NextSt.cons rfl (fun K' hK=>?_) NextSt.nil
  obtain⟨s0,s1,s2,s3,s4,s5,s6,s7⟩:=F2.out.c8 0 rfl
  obtain⟨f0,f1,f2,f3,f4,f5,f6,f7⟩:=F2.out.f8 0 rfl
  clear hHeld
  go_simp
  clear s0 s1 s2 s3 s4 s5 s6 s7 f0 f1 f2 f3 f4 f5 f6 f7
  replace F2:=Lib.hid (F2.out.put 0 rfl [.string ⟨#[97]⟩, .string ⟨#[70,53,49]⟩, .int .i64 848070069184000, .int .i64 1000, .int .i64 0, .int .i64 1, .int .i64 9999, .int .u8 32] rfl)
  simp only[World.setCells,Nat.reduceAdd] at F2
  generalize World.setCell _ _ _=we at *
  refine hK.out _ _ (F2.out.get 2 rfl) (fun hHeld=>?_)
  clear hK
  try simp only[Act.put,Lw.s1,Lw.s2,Lw.s3]
  refine TillSt.nx [5] ?_
  refine NextSt.last rfl (by kernel_rfl) (fun K' hK=>?_) NextSt.nil
  obtain⟨s0,s1,s2,s3,s4,s5,s6,s7⟩:=F2.out.c8 1 rfl
  obtain⟨f0,f1,f2,f3,f4,f5,f6,f7⟩:=F2.out.f8 1 rfl
  clear hHeld
  go_simp
  clear s0 s1 s2 s3 s4 s5 s6 s7 f0 f1 f2 f3 f4 f5 f6 f7
  replace F2:=Lib.hid (F2.out.put 1 rfl [.string ⟨#[97]⟩, .string ⟨#[70,53,49]⟩, .int .i64 848070069184000, .int .i64 1000, .int .i64 0, .int .i64 1, .int .i64 9999, .int .u8 32] rfl)
  simp only[World.setCells,Nat.reduceAdd] at F2
  generalize World.setCell _ _ _=wf at *
  refine hK.out _ _ ?_
  clear hK
  try simp only[Act.put,Lw.s1,Lw.s2,Lw.s3]
  refine TillSt.done (by kernel_rfl) ?_ _
  have n1:¬ wb.heap.size=wd.heap.size:=fun q=>by
   have nd:=F2.out.nd
   simp at nd
   omega
  have a2:=F2.out.cell 0 2 rfl rfl
  have fa2:=F2.out.fz 0 2 rfl rfl
  have a3:=F2.out.cell 0 3 rfl rfl
  have fa3:=F2.out.fz 0 3 rfl rfl
  have b2:=F2.out.cell 1 2 rfl rfl
  have fb2:=F2.out.fz 1 2 rfl rfl
  have b3:=F2.out.cell 1 3 rfl rfl
  have fb3:=F2.out.fz 1 3 rfl rfl
  go_upto_region 5 with fail
  clear a2 a3 b2 b3 fa2 fa3 fb2 fb3
  replace F2:=Lib.hid ((F2.out.set2 0 (x:=.int .i64 848073669184000) (y:=.int .i64 s) rfl).set2 1 (x:=.int .i64 848080869184000) (y:=.int .i64 1300) rfl)
  generalize World.setCell _ _ _=wg at *
  obtain⟨c0,c1,c2,c3,c4,c5,c6,c7⟩:=F2.out.c8 2 rfl
  obtain⟨a0,a1,a2,a3,a4,a5,a6,a7⟩:=F2.out.c8 0 rfl
  obtain⟨b0,b1,b2,b3,b4,b5,b6,b7⟩:=F2.out.c8 1 rfl
  go_wp2_with fail
  exact bodyPost_ret (results_tmp rfl _ _ _) rfl ⟨wg.heap.size,F2.out.below.size,rfl,rangeAt_new wg (gC s) _,there_new wg _ _ _ (by simp[gC]),F2.out.below.alloc F2.out.below.size _,by simp⟩
end Tw
namespace Tw
open Go.RowKit Lw Tk Wd Vw Go.Proofs.YtdnogmanbdgadaaGreatDoor.Ap Go.Proofs.YtdnogmanbdgadaaGreatDoor.Op Go.Proofs.YtdnogmanbdgadaaGreatDoor.Mp Go.Proofs.YtdnogmanbdgadaaGreatDoor.Mw Go.Proofs.YtdnogmanbdgadaaGreatDoor.At Go.Proofs.YtdnogmanbdgadaaGreatDoor.Ow

theorem wpList_make_run2 {P:Program} (w:World) {ops:Array Oper} {rest:List Oper} {o:Oper} {a:Act} {Q:Exit→Act→World→Prop} (hg:o.guard=none) (l c:Operand) (t:TypeId) (hop:o.op=Op.makeSlice t l c) (vl vc v:Value) (w':World) (hl:a.eval l=vl) (hc:a.eval c=vc) (hrun:(Instr.makeSlice t vl vc).run P w = .ok v w') (hK:wpList P ops Q rest (a.put o.dst v) w'):wpList P ops Q (o::rest) a w:=by
 refine wpList_plain hg fun K hK'=>?_
 unfold Oper.wp
 simp[execOp,hop,hl,hc,hrun,Result.andThen]
 exact hK' _ _ hK
theorem sets_k3 {w:World} {a b c d:Nat} (ha:a<w.heap.size) (hb:b<w.heap.size) (hc:c<w.heap.size) (hd:d<w.heap.size) (ra:w.rangeAt a 0 [.int .i64 0, .int .i64 1]) (rb:w.rangeAt b 0 [.int .i64 0, .int .i64 2]) (rc:w.rangeAt c 0 [.int .i64 1, .int .i64 2])
  (rd:w.rangeAt d 0 [.slice (some ⟨a,0,none⟩) 2 2, .slice (some ⟨b,0,none⟩) 2 2, .slice (some ⟨c,0,none⟩) 2 2]):SetsAt w (.slice (some ⟨d,0,none⟩) 3 3) [[0,1],[0,2],[1,2]]:=by
 have two:∀ {e:Nat} {x y:Nat},e<w.heap.size→w.rangeAt e 0 [.int .i64 (x:Int), .int .i64 (y:Int)]→RowsG 1 inE w (some ⟨e,0,none⟩) [x,y]:=fun {e x y} he r=>⟨fun j hj=>⟨e,rfl,he,fun k v hv=>by
  obtain rfl:k=0:=by have:=(List.getElem?_eq_some_iff.1 hv).1;simp at this;omega
  have hj':j=0∨j=1:=by
   have:j<2:=hj
   omega
  rcases hj' with rfl|rfl
  ·exact r 0 v hv
  ·exact r 1 v hv⟩⟩
 refine⟨some ⟨d,0,none⟩,3,[⟨some ⟨a,0,none⟩,2,2⟩,⟨some ⟨b,0,none⟩,2,2⟩,⟨some ⟨c,0,none⟩,2,2⟩],rfl,rfl,⟨fun i hi=>⟨d,rfl,hd,fun k v hv=>?_⟩⟩,fun i h1 h2=>?_⟩
 ·obtain rfl:k=0:=by have:=(List.getElem?_eq_some_iff.1 hv).1;simp at this;omega
  have hi':i=0∨i=1∨i=2:=by
   have:i<3:=hi
   omega
  rcases hi' with rfl|rfl|rfl
  ·exact rd 0 v hv
  ·exact rd 1 v hv
  ·exact rd 2 v hv
 ·have hi':i=0∨i=1∨i=2:=by
   have:i<3:=h1
   omega
  rcases hi' with rfl|rfl|rfl
  ·exact⟨rfl,two ha ra⟩
  ·exact⟨rfl,two hb rb⟩
  ·exact⟨rfl,two hc rc⟩
theorem mcode (x:Option Addr) (cap:Nat) (l:List Ob) (c:Int) (hc:(motE l).2.2=c) (w:World) (hE:ES w) (hl:SlA w x l) (hm:l.length≤1000000) (hb:OBs l) (h9:allT l=0→l.length≤9) :
  Calls Tryz.prog 17 #[.slice x l.length cap] w fun e w'=>(∃ s m,e = .returned (.tuple #[.agg (atC s m).toArray, .int .i64 c]))∧Below w.heap.size w w' :=
 (motion_any x cap l w hE hl hm hb h9).mono fun _ _ ⟨h1,h2⟩=>⟨⟨(motE l).1,(motE l).2.1,by subst hc;exact h1⟩,h2⟩
theorem obs_l {l:List Ob} (h:∀ o∈l,OB o):OBs l:=fun i hi=>h _ (List.getElem_mem hi)
theorem OB_G (t ra:Int) (t0:-9223372036854775808≤t) (t1:t≤9223372036854775807):OB (oG t ra):=⟨t0,t1,by simp[oG],by simp[oG],by show (1:Nat)≤9223372036854775807;omega,by show (3:Nat)≤9223372036854775807;omega⟩
theorem OB_S (t ra:Int) (t0:-9223372036854775808≤t) (t1:t≤9223372036854775807):OB (oS t ra):=⟨t0,t1,by simp[oS],by simp[oS],by show (1:Nat)≤9223372036854775807;omega,by show (3:Nat)≤9223372036854775807;omega⟩
theorem ob_two:OBs lTwo:=obs_l fun o ho=>by
 simp only[lTwo,List.mem_cons,List.not_mem_nil,or_false] at ho
 rcases ho with rfl|rfl|rfl <;> first|exact OB_G _ _ (by omega) (by omega)|exact OB_S _ _ (by omega) (by omega)
theorem ob_over:OBs lOver:=obs_l fun o ho=>by
 simp only[lOver,List.mem_cons,List.not_mem_nil,or_false] at ho
 rcases ho with rfl|rfl|rfl <;> exact OB_G _ _ (by omega) (by omega)
theorem ob_far:OBs lFar:=obs_l fun o ho=>by
 simp only[lFar,List.mem_cons,List.not_mem_nil,or_false] at ho
 rcases ho with rfl|rfl|rfl <;> exact OB_G _ _ (by omega) (by omega)
theorem ob_fast:OBs lFast:=obs_l fun o ho=>by
 simp only[lFast,List.mem_cons,List.not_mem_nil,or_false] at ho
 rcases ho with rfl|rfl|rfl <;> exact OB_G _ _ (by omega) (by omega)
theorem ob_first:OBs [oG 848070069184000 1000]:=obs_l fun o ho=>by
 rw[List.mem_singleton.1 ho]
 exact OB_G _ _ (by omega) (by omega)
theorem names_any (w:World) (hE:ES w) (hD:DB w):Calls Tryz.prog 7 #[] w fun e w'=>e = .returned (.bool true)∧Below w.heap.size w w':=by
 have GV:=Lib.hid given2_any
 have RL:=Lib.hid lrule_any
 have AL:=Lib.hid (fun w' (h:Below w.heap.size w w')=>lalive_any w' (hE.below h) (hD.below h))
 have FT:=Lib.hid (fun b w' (h:Below w.heap.size w w') (s:SlA w' (some ⟨b,0,none⟩) lTwo)=>find2_any (some ⟨b,0,none⟩) 3 lTwo uG w' (hE.below h) (hD.below h) s (by decide) (fun _=>by decide) ob_two)
 have PS:=Lib.hid (fun b w' (h:Below w.heap.size w w') (s:SlA w' (some ⟨b,0,none⟩) (lG 1100))=>pairs_any (some ⟨b,0,none⟩) 3 (lG 1100) uSlow w' (hE.below h) s (by decide) obs_G)
 have FF:=Lib.hid (fun b w' (h:Below w.heap.size w w') (s:SlA w' (some ⟨b,0,none⟩) (lG 1111))=>find2_any (some ⟨b,0,none⟩) 3 (lG 1111) uFew w' (hE.below h) (hD.below h) s (by decide) (fun _=>by decide) obs_G)
 have FZ:=Lib.hid (fun b w' (h:Below w.heap.size w w') (s:SlA w' (some ⟨b,0,none⟩) (lG 0))=>find2_any (some ⟨b,0,none⟩) 3 (lG 0) uZero w' (hE.below h) (hD.below h) s (by decide) (fun _=>by decide) obs_G)
 have FM:=Lib.hid (fun b w' (h:Below w.heap.size w w') (s:SlA w' (some ⟨b,0,none⟩) (List.replicate 201 zQ))=>find2_any (some ⟨b,0,none⟩) 201 (List.replicate 201 zQ) uG w' (hE.below h) (hD.below h) s (by rw[List.length_replicate];omega) (fun q=>by rw[nm_long] at q;cases q) (zeros_ob 201))
 rw[nm_two.1,nm_two.2] at FT
 rw[nm_slow.1,nm_slow.2] at PS
 rw[nm_few.1,nm_few.2] at FF
 rw[nm_zero] at FZ
 rw[nm_long,List.length_replicate] at FM
 have MO:=Lib.hid (fun b w' (h:Below w.heap.size w w') (s:SlA w' (some ⟨b,0,none⟩) lOver)=>motion_any (some ⟨b,0,none⟩) 3 lOver w' (hE.below h) s (by decide) ob_over (fun _=>by decide))
 obtain⟨mo1,mo2,mo3⟩:=nm_over
 generalize motE lOver=me at *
 obtain⟨so,⟨ot,ora,odec,odra,oddec⟩,og⟩:=me
 dsimp only at mo1 mo2 mo3
 subst mo1 mo2 mo3
 have MN:=Lib.hid (fun w' (h:Below w.heap.size w w')=>mcode none 0 [] 22 nm_nil w' (hE.below h) (Or.inl rfl) (by decide) (obs_l fun _ h=>by cases h) (fun _=>by decide))
 have MT:=Lib.hid (fun b w' (h:Below w.heap.size w w') (s:SlA w' (some ⟨b,0,none⟩) lTwo)=>mcode (some ⟨b,0,none⟩) 3 lTwo 2 nm_mot2 w' (hE.below h) s (by decide) ob_two (fun _=>by decide))
 have MF:=Lib.hid (fun b w' (h:Below w.heap.size w w') (s:SlA w' (some ⟨b,0,none⟩) [oG 848070069184000 1000])=>mcode (some ⟨b,0,none⟩) 3 [oG 848070069184000 1000] 22 nm_first w' (hE.below h) s (by decide) ob_first (fun _=>by decide))
 have MM:=Lib.hid (fun b w' (h:Below w.heap.size w w') (s:SlA w' (some ⟨b,0,none⟩) (List.replicate 201 zQ))=>mcode (some ⟨b,0,none⟩) 201 (List.replicate 201 zQ) 4 ((mot_bad (by rw[nm_many];decide)).trans nm_many) w' (hE.below h) s (by rw[List.length_replicate];omega) (zeros_ob 201) (fun q=>by rw[nm_many] at q;cases q))
 rw[List.length_replicate] at MM
 have M1:=Lib.hid (fun b w' (h:Below w.heap.size w w') (s:SlA w' (some ⟨b,0,none⟩) (List.replicate 1 zQ))=>mcode (some ⟨b,0,none⟩) 1 (List.replicate 1 zQ) 8 ((mot_bad (by rw[nm_one];decide)).trans nm_one) w' (hE.below h) s (by decide) (zeros_ob 1) (fun q=>by rw[nm_one] at q;cases q))
 rw[List.length_replicate] at M1
 have MR:=Lib.hid (fun b w' (h:Below w.heap.size w w') (s:SlA w' (some ⟨b,0,none⟩) lFar)=>mcode (some ⟨b,0,none⟩) 3 lFar 2 nm_far w' (hE.below h) s (by decide) ob_far (fun _=>by decide))
 have MQ:=Lib.hid (fun b w' (h:Below w.heap.size w w') (s:SlA w' (some ⟨b,0,none⟩) lFast)=>mcode (some ⟨b,0,none⟩) 3 lFast 16 nm_fast w' (hE.below h) s (by decide) ob_fast (fun _=>by decide))
 have AG1:=Lib.hid (fun w'=>along_any ByteArray.empty ⟨0, -1,0,0,0⟩ 0 w' (by decide) (by decide) (by decide) (by decide) (by decide) (by decide))
 have AG2:=Lib.hid (fun w'=>along_any ByteArray.empty ⟨-1,0,0,0,0⟩ 8640000000000 w' (by decide) (by decide) (by decide) (by decide) (by decide) (by decide))
 have AG3:=Lib.hid (fun w'=>along_any ByteArray.empty ⟨0,0,324000000000,0,1⟩ 86400000000 w' (by decide) (by decide) (by decide) (by decide) (by decide) (by decide))
 have AG4:=Lib.hid (fun w'=>along_any ByteArray.empty ⟨0,5, -7, -3,2⟩ 8640000000000 w' (by decide) (by decide) (by decide) (by decide) (by decide) (by decide))
 rw[nm_a1] at AG1
 rw[nm_a2] at AG2
 rw[nm_a3] at AG3
 rw[nm_a4] at AG4
 have SM:=Lib.hid (fun V1 V2 w' (h1:SetsAt w' V1 [[0,1],[0,2],[1,2]]) (h2:SetsAt w' V2 [[0,1],[0,2],[1,2]])=>samesets_any V1 V2 [[0,1],[0,2],[1,2]] w' h1 h2 (by decide) (by decide))
 have m201:∀ w',(Instr.makeSlice 22 (.int .i64 201) (.int .i64 201)).run Tryz.prog w' = .ok (.slice (some ⟨w'.heap.size,0,none⟩) 201 201) (w'.alloc (.cells (zC 201) 31)):=fun w'=>make_O 201 (by decide) w'
 have m1:∀ w',(Instr.makeSlice 22 (.int .i64 1) (.int .i64 1)).run Tryz.prog w' = .ok (.slice (some ⟨w'.heap.size,0,none⟩) 1 1) (w'.alloc (.cells (zC 1) 31)):=fun w'=>make_O 1 (by decide) w'
 simp only[atV,atC] at AG1 AG2 AG3 AG4 MO
 have F:=Lib.hid (Fr.start w)
 clear hE hD
 go_enter Tryz.func7,Tryz.ntmps7
 go_upto_region 2 with(go_at_call 22;refine(RL.out w).mono ?_;rintro e w1 ⟨rfl,k1⟩;have F1:=Lib.hid ((F.out.call k1).alloc (rlC uG) 24);clear k1)
 replace F:=F1
 clear F1
 generalize World.alloc w1 _=w2 at *
 go_upto_region 3 with(go_at_call 20;refine(GV.out 1100 _).mono ?_;rintro e wg ⟨bt,lo,rfl,rg,tg,kg,lt⟩;have F1:=Lib.hid (F.out.add kg lo lt rg tg);clear kg lo lt rg tg)
 replace F:=F1
 clear F1
 have c9:=F.out.cell 0 9 rfl rfl
 have f9:=F.out.fz 0 9 rfl rfl
 go_upto_region 4 with fail
 clear c9 f9
 replace F:=Lib.hid (F.out.put1 0 rfl 9 (.string ⟨#[53,48,48]⟩) (by simp[gC]))
 generalize World.setCell _ _ _=w3 at *
 obtain⟨c0,c1,c2,c3,c4⟩:=F.out.c5 1 rfl
 have ST:=Lib.hid (show SlA w3 (some ⟨bt,0,none⟩) lTwo from(sla_three (F.out.least 0 rfl).2 (F.out.get 0 rfl) rfl))
 go_upto_region 5 with(go_at_call 13;refine(FT.out bt _ F.out.below ST.out).mono ?_;rintro e w4 ⟨V,rfl,k4,s4⟩;obtain⟨A4,q4,rfl⟩:=s4.len0;have F1:=Lib.hid (F.out.call k4);clear k4 s4 ST)
 clear c0 c1 c2 c3 c4
 replace F:=F1
 clear F1 FT
 obtain⟨c0,c1,c2,c3,c4⟩:=F.out.c5 1 rfl
 go_upto_region 6 with fail
 replace F:=Lib.hid (F.out.alloc (rlC uG) 24)
 generalize w4.heap.size=bs at *
 generalize World.alloc w4 _=w5 at *
 clear c0 c1 c2 c3 c4
 have c2:=F.out.cell 0 2 rfl rfl
 have f2:=F.out.fz 0 2 rfl rfl
 go_upto_region 7 with fail
 clear c2 f2
 replace F:=Lib.hid (F.out.put1 0 rfl 2 (.int .i64 2399) (by simp))
 generalize World.setCell _ _ _=w6 at *
 refine wp_region_held_drew (S:=fun wx=>wx.rangeAt bs 0 (rlC uSlow)) (by kernel_rfl) (F.out.drew.get 0 rfl) (fun hHeld=>?_)
 replace F:=Lib.hid F.out.drew
 generalize World.drew _=wd7 at *
 refine wpAnyH_take (i:=1) (oi:=?oi1x1) (v:=?v1x1) ?hi1x1 (by kernel_rfl) (by kernel_rfl) (by kernel_rfl) ?hq1x1 ?hy1x1 hHeld ?rest1x1
 case hi1x1=>((try simp only[List.getElem?_toArray,List.getElem?_cons_succ,List.getElem?_cons_zero]);(try rfl))
 case hq1x1=>exact fun _ _ _ h=>h
 case hy1x1 =>
  refine' yieldsIf_load_mid ?_ 24 (.tmp 5) ?_ bs 0 ?_ (rlC uSlow) _ ?_ Tryz.underlying24 ?_ info5
  ·rfl
  ·rfl
  ·rfl
  ·exact fun _ h=>h
  ·rfl
 try simp only[Act.put,Lw.s1,Lw.s2,Lw.s3]
 refine wpAnyH_ready (rs:=[0]) (by kernel_rfl) (by simp) ?_
 refine AllReadyH.cons rfl (fun K' hK=>?_) AllReadyH.nil
 clear hHeld
 go_simp
 refine(GV.out 1100 _).mono ?_
 rintro e wg ⟨bg,lo,rfl,rg,tg,kg,lt⟩
 have SG:=Lib.hid (show SlA wg (some ⟨bg,0,none⟩) (lG 1100) from sla_three lt rg rfl)
 replace F:=Lib.hid (F.out.call kg)
 clear kg lo rg tg lt
 refine hK.out _ _ (F.out.get 0 rfl) (fun hHeld=>?_)
 clear hK
 try simp only[Act.put,Lw.s1,Lw.s2,Lw.s3]
 refine wpAnyH_ready (rs:=[2]) (by kernel_rfl) (by simp) ?_
 refine AllReadyH.cons rfl (fun K' hK=>?_) AllReadyH.nil
 clear hHeld
 go_simp
 refine(PS.out bg _ F.out.below SG.out).mono ?_
 rintro e w8 ⟨V6,rfl,ow,k8⟩
 obtain⟨A6,q6,rfl, -, -⟩:=OwnG.form (enc:=prE) (fun _=>rfl) ow
 replace F:=Lib.hid (F.out.call k8)
 clear k8 ow SG
 refine hK.out _ _ (F.out.get 0 rfl) (fun hHeld=>?_)
 clear hK
 try simp only[Act.put,Lw.s1,Lw.s2,Lw.s3]
 refine Lw.tK 3 hHeld (h:=?_)
 refine Lw.tK 4 hHeld (h:=?_)
 refine Lw.tK 5 hHeld (h:=?_)
 refine Lw.tK 6 hHeld (h:=?_)
 refine Lw.tK 7 hHeld (h:=?_)
 refine wpAnyH_done (by kernel_rfl) ?_ _
 clear PS
 obtain⟨c0,c1,c2,c3,c4⟩:=F.out.c5 2 rfl
 go_upto_region 9 with fail
 replace F:=Lib.hid (F.out.alloc (rlC uG) 24)
 generalize hbf:w8.heap.size=bf at *
 generalize World.alloc w8 _=w9 at *
 clear c0 c1 c2 c3 c4 hbf
 have c4:=F.out.cell 0 4 rfl rfl
 have f4:=F.out.fz 0 4 rfl rfl
 go_upto_region 10 with fail
 clear c4 f4
 replace F:=Lib.hid (F.out.put1 0 rfl 4 (.int .i64 2) (by simp))
 generalize World.setCell _ _ _=wa at *
 refine wp_region_held_drew (S:=fun wx=>wx.rangeAt bf 0 (rlC uFew)) (by kernel_rfl) (F.out.drew.get 0 rfl) (fun hHeld=>?_)
 replace F:=Lib.hid F.out.drew
 generalize World.drew _=wd10 at *
 refine wpAnyH_take (i:=1) (oi:=?oi1x7) (v:=?v1x7) ?hi1x7 (by kernel_rfl) (by kernel_rfl) (by kernel_rfl) ?hq1x7 ?hy1x7 hHeld ?rest1x7
 case hi1x7=>((try simp only[List.getElem?_toArray,List.getElem?_cons_succ,List.getElem?_cons_zero]);(try rfl))
 case hq1x7=>exact fun _ _ _ h=>h
 case hy1x7 =>
  refine' yieldsIf_load_mid ?_ 24 (.tmp 8) ?_ bf 0 ?_ (rlC uFew) _ ?_ Tryz.underlying24 ?_ info5
  ·rfl
  ·rfl
  ·rfl
  ·exact fun _ h=>h
  ·rfl
 try simp only[Act.put,Lw.s1,Lw.s2,Lw.s3]
 refine wpAnyH_ready (rs:=[0]) (by kernel_rfl) (by simp) ?_
 refine AllReadyH.cons rfl (fun K' hK=>?_) AllReadyH.nil
 clear hHeld
 go_simp
 refine(GV.out 1111 _).mono ?_
 rintro e wg ⟨bg,lo,rfl,rg,tg,kg,lt⟩
 have SG:=Lib.hid (show SlA wg (some ⟨bg,0,none⟩) (lG 1111) from sla_three lt rg rfl)
 replace F:=Lib.hid (F.out.call kg)
 clear kg lo rg tg lt
 refine hK.out _ _ (F.out.get 0 rfl) (fun hHeld=>?_)
 clear hK
 try simp only[Act.put,Lw.s1,Lw.s2,Lw.s3]
 refine wpAnyH_ready (rs:=[2]) (by kernel_rfl) (by simp) ?_
 refine AllReadyH.cons rfl (fun K' hK=>?_) AllReadyH.nil
 clear hHeld
 go_simp
 refine(FF.out bg _ F.out.below SG.out).mono ?_
 rintro e wb ⟨V9,rfl,kb,s9⟩
 have S9:=Lib.hid s9
 replace F:=Lib.hid (F.out.call kb)
 clear kb s9 SG
 refine hK.out _ _ (F.out.get 0 rfl) (fun hHeld=>?_)
 clear hK
 try simp only[Act.put,Lw.s1,Lw.s2,Lw.s3]
 refine Lw.tK 3 hHeld (h:=?_)
 refine Lw.tK 4 hHeld (h:=?_)
 refine Lw.tK 5 hHeld (h:=?_)
 refine Lw.tK 6 hHeld (h:=?_)
 refine Lw.tK 7 hHeld (h:=?_)
 refine wpAnyH_done (by kernel_rfl) ?_ _
 clear FF
 have FB:=Lib.hid (F.out.below)
 have G:=Lib.hid (Fr.start wb)
 go_upto_region 12 with(go_at_call 20;refine(GV.out 0 _).mono ?_;rintro e wg ⟨bo,lo,rfl,rg,tg,kg,lt⟩;have G1:=Lib.hid (G.out.add kg lo lt rg tg);clear kg lo lt rg tg)
 replace G:=G1
 clear G1
 have c3:=G.out.cell 0 3 rfl rfl
 have f3:=G.out.fz 0 3 rfl rfl
 have c11:=G.out.cell 0 11 rfl rfl
 have f11:=G.out.fz 0 11 rfl rfl
 have c19:=G.out.cell 0 19 rfl rfl
 have f19:=G.out.fz 0 19 rfl rfl
 go_upto_region 13 with fail
 clear c3 f3 c11 f11 c19 f19
 replace G:=Lib.hid (((G.out.put1 0 rfl 3 (.int .i64 1295999999900) (by simp[gC])).put1 0 rfl 11 (.int .i64 0) (by simp[gC])).put1 0 rfl 19 (.int .i64 200) (by simp[gC]))
 generalize World.setCell _ _ _=wc at *
 have SX:=Lib.hid (show SlA wc (some ⟨bo,0,none⟩) lOver from sla_three (G.out.least 0 rfl).2 (G.out.get 0 rfl) rfl)
 go_upto_region 14 with(go_at_call 17;refine(MO.out bo _ (below_then FB.out G.out.below) SX.out).mono ?_;rintro e wd ⟨rfl,k1⟩;have G1:=Lib.hid ((G.out.call k1).alloc (atC so ⟨ot,50,odec,2400,oddec⟩) 44);clear k1 SX)
 replace G:=G1
 clear G1 MO
 generalize wd.heap.size=bm at *
 generalize World.alloc wd _=we at *
 go_upto_region 15 with(go_at_call 17;refine(MN.out _ (below_then FB.out G.out.below)).mono ?_;rintro e wf ⟨⟨s0,m0,rfl⟩,k1⟩;obtain⟨y0,y1,y2,y3,y4⟩:=m0;have G1:=Lib.hid ((G.out.call k1).call ((Below.refl _ _).alloc (Nat.le_refl _) (.cells (atC s0 ⟨y0,y1,y2,y3,y4⟩).toArray 44)));clear k1)
 replace G:=G1
 clear G1 MN
 generalize World.alloc wf _=wg at *
 have HT:=Lib.hid (fun w' (h:Below wb.heap.size wb w')=>(show SlA w' (some ⟨bt,0,none⟩) lTwo from sla_three ((F.out.call h).least 2 rfl).2 ((F.out.call h).get 2 rfl) rfl))
 go_upto_region 16 with(go_at_call 17;refine(MT.out bt _ (below_then FB.out G.out.below) (HT.out _ G.out.below)).mono ?_;rintro e wh ⟨⟨s0,m0,rfl⟩,k1⟩;obtain⟨y0,y1,y2,y3,y4⟩:=m0;have G1:=Lib.hid ((G.out.call k1).call ((Below.refl _ _).alloc (Nat.le_refl _) (.cells (atC s0 ⟨y0,y1,y2,y3,y4⟩).toArray 44)));clear k1)
 replace G:=G1
 clear G1 MT
 generalize World.alloc wh _=wi at *
 go_upto_region 17 with(go_at_call 17;refine(MF.out bt _ (below_then FB.out G.out.below) (sla_first (HT.out _ G.out.below))).mono ?_;rintro e wj ⟨⟨s0,m0,rfl⟩,k1⟩;obtain⟨y0,y1,y2,y3,y4⟩:=m0;have G1:=Lib.hid ((G.out.call k1).call ((Below.refl _ _).alloc (Nat.le_refl _) (.cells (atC s0 ⟨y0,y1,y2,y3,y4⟩).toArray 44)));clear k1)
 replace G:=G1
 clear G1 MF HT
 generalize World.alloc wj _=wk at *
 go_upto_region 18 with(first|(at_make;refine wpList_make_run2 _ rfl _ _ _ rfl _ _ _ _ rfl rfl (m201 _) ?_)|(go_at_call 17;have G0:=Lib.hid (G.out.call ((Below.refl _ wk).alloc (Nat.le_refl _) (.cells (zC 201) 31)));refine(MM.out _ _ (below_then FB.out G0.out.below) (zeros_at wk 201)).mono ?_;rintro e wl ⟨⟨s0,m0,rfl⟩,k1⟩;obtain⟨y0,y1,y2,y3,y4⟩:=m0;have G1:=Lib.hid ((G0.out.call k1).call ((Below.refl _ _).alloc (Nat.le_refl _) (.cells (atC s0 ⟨y0,y1,y2,y3,y4⟩).toArray 44)));clear k1 G0))
 replace G:=G1
 clear G1 MM
 generalize World.alloc wl _=wm at *
 go_upto_region 19 with(first|(at_make;refine wpList_make_run2 _ rfl _ _ _ rfl _ _ _ _ rfl rfl (m1 _) ?_)|(go_at_call 17;have G0:=Lib.hid (G.out.call ((Below.refl _ wm).alloc (Nat.le_refl _) (.cells (zC 1) 31)));refine(M1.out _ _ (below_then FB.out G0.out.below) (zeros_at wm 1)).mono ?_;rintro e wn ⟨⟨s0,m0,rfl⟩,k1⟩;obtain⟨y0,y1,y2,y3,y4⟩:=m0;have G1:=Lib.hid ((G0.out.call k1).call ((Below.refl _ _).alloc (Nat.le_refl _) (.cells (atC s0 ⟨y0,y1,y2,y3,y4⟩).toArray 44)));clear k1 G0))
 replace G:=G1
 clear G1 M1
 generalize World.alloc wn _=wo at *
 go_upto_region 20 with(go_at_call 20;refine(GV.out 0 _).mono ?_;rintro e wg ⟨br,lo,rfl,rg,tg,kg,lt⟩;have G1:=Lib.hid (G.out.add kg lo lt rg tg);clear kg lo lt rg tg)
 replace G:=G1
 clear G1
 have W20:IntKind.i64.wrap (848080869184000+172800000000)=848253669184000:=by decide +kernel
 have W21:IntKind.i64.wrap 848253669184000=848253669184000:=by decide +kernel
 have c18:=G.out.cell 0 18 rfl rfl
 have f18:=G.out.fz 0 18 rfl rfl
 go_upto_region 21 with fail
 clear c18 f18 W20 W21
 replace G:=Lib.hid (G.out.put1 0 rfl 18 (.int .i64 848253669184000) (by simp[gC]))
 generalize World.setCell _ _ _=wp at *
 have SX:=Lib.hid (show SlA wp (some ⟨br,0,none⟩) lFar from sla_three (G.out.least 0 rfl).2 (G.out.get 0 rfl) rfl)
 go_upto_region 22 with(go_at_call 17;refine(MR.out br _ (below_then FB.out G.out.below) SX.out).mono ?_;rintro e wq ⟨⟨s0,m0,rfl⟩,k1⟩;obtain⟨y0,y1,y2,y3,y4⟩:=m0;have G1:=Lib.hid ((G.out.call k1).call ((Below.refl _ _).alloc (Nat.le_refl _) (.cells (atC s0 ⟨y0,y1,y2,y3,y4⟩).toArray 44)));clear k1)
 replace G:=G1
 clear G1 MR SX
 generalize World.alloc wq _=wr at *
 go_upto_region 23 with(go_at_call 20;refine(GV.out 0 _).mono ?_;rintro e wg ⟨bq,lo,rfl,rg,tg,kg,lt⟩;have G1:=Lib.hid (G.out.add kg lo lt rg tg);clear kg lo lt rg tg)
 replace G:=G1
 clear G1
 have W20:IntKind.i64.wrap (848070069184000+1)=848070069184001:=by decide +kernel
 have W21:IntKind.i64.wrap 848070069184001=848070069184001:=by decide +kernel
 refine wp_region_held_drew (S:=fun wx=>wx.cell? ⟨bq,2,none⟩=some (.int .i64 848070069184000)) (by kernel_rfl) (G.out.drew.cell 0 2 rfl rfl) (fun hHeld=>?_)
 replace G:=Lib.hid G.out.drew
 generalize World.drew _=wd23 at *
 refine Lw.tK 0 hHeld (h:=?_)
 refine Lw.tK 1 hHeld (h:=?_)
 refine Lw.tK 2 hHeld (h:=?_)
 refine Lw.tK 3 hHeld (h:=?_)
 refine Lw.tK 4 hHeld (h:=?_)
 refine Lw.tK 5 hHeld (hy:=Or.inl ⟨by rfl,by intro w hSw;have c0:=hSw;clear hSw;go_simp;try with_reducible rfl⟩) (h:=?_)
 refine Lw.tK 6 hHeld (h:=?_)
 refine Lw.tK 7 hHeld (h:=?_)
 refine Lw.tK 8 hHeld (h:=?_)
 refine Lw.tK 9 hHeld (hy:=Or.inl ⟨by rfl,by intro w hSw;have c0:=hSw;clear hSw;go_simp;try with_reducible rfl⟩) (h:=?_)
 refine Lw.tK 10 hHeld (h:=?_)
 refine Lw.tK 11 hHeld (h:=?_)
 refine Lw.tK 12 hHeld (h:=?_)
 refine wpAnyH_ready (rs:=[13]) (by kernel_rfl) (by simp) ?_
 refine AllReadyH.cons rfl (fun K' hK=>?_) AllReadyH.nil
 clear hHeld
 have s0:=G.out.cell 0 10 rfl rfl
 have f0:=G.out.fz 0 10 rfl rfl
 go_simp
 clear s0 f0
 replace G:=Lib.hid (G.out.put1 0 rfl 10 (.int .i64 848070069184000) (by simp[gC]))
 generalize World.setCell _ _ _=ws at *
 refine hK.out _ _ (G.out.cell 0 2 rfl rfl) (fun hHeld=>?_)
 clear hK
 try simp only[Act.put,Lw.s1,Lw.s2,Lw.s3]
 refine Lw.tK 14 hHeld (h:=?_)
 refine Lw.tK 15 hHeld (h:=?_)
 refine wpAnyH_ready (rs:=[16]) (by kernel_rfl) (by simp) ?_
 refine AllReadyH.cons rfl (fun K' hK=>?_) AllReadyH.nil
 clear hHeld
 have s0:=G.out.cell 0 18 rfl rfl
 have f0:=G.out.fz 0 18 rfl rfl
 go_simp
 clear s0 f0
 replace G:=Lib.hid (G.out.put1 0 rfl 18 (.int .i64 848070069184001) (by simp[gC]))
 generalize World.setCell _ _ _=wt at *
 refine hK.out _ _ (G.out.cell 0 2 rfl rfl) (fun hHeld=>?_)
 clear hK
 try simp only[Act.put,Lw.s1,Lw.s2,Lw.s3]
 refine wpAnyH_done (by kernel_rfl) ?_ _
 clear W20 W21
 have c19:=G.out.cell 0 19 rfl rfl
 have f19:=G.out.fz 0 19 rfl rfl
 go_upto_region 25 with fail
 clear c19 f19
 replace G:=Lib.hid (G.out.put1 0 rfl 19 (.int .i64 648000000000) (by simp[gC]))
 generalize World.setCell _ _ _=wu at *
 have SX:=Lib.hid (show SlA wu (some ⟨bq,0,none⟩) lFast from sla_three (G.out.least 0 rfl).2 (G.out.get 0 rfl) rfl)
 go_upto_region 26 with(go_at_call 17;refine(MQ.out bq _ (below_then FB.out G.out.below) SX.out).mono ?_;rintro e wv ⟨⟨s0,m0,rfl⟩,k1⟩;obtain⟨y0,y1,y2,y3,y4⟩:=m0;have G1:=Lib.hid ((G.out.call k1).call ((Below.refl _ _).alloc (Nat.le_refl _) (.cells (atC s0 ⟨y0,y1,y2,y3,y4⟩).toArray 44)));clear k1)
 replace G:=G1
 clear G1 MQ SX
 generalize World.alloc wv _=ww at *
 go_upto_region 27 with(first|(go_at_call 20;refine(GV.out 0 _).mono ?_;rintro e wx ⟨bz,lo,rfl,rg,tg,kg,lt⟩;have SG:=Lib.hid (show SlA wx (some ⟨bz,0,none⟩) (lG 0) from sla_three lt rg rfl);have G1:=Lib.hid (G.out.call kg);clear kg lo rg tg lt)|(go_at_call 13;refine(FZ.out bz _ (below_then FB.out G1.out.below) SG.out).mono ?_;rintro e wy ⟨Vz,rfl,kz, -⟩;have G2:=Lib.hid (G1.out.call kz);clear kz SG))
 replace G:=G2
 clear G1 G2 FZ
 have UB:=Lib.hid (fun w' (h:Below wb.heap.size wb w')=>(F.out.call h).get 3 rfl)
 refine wp_region_held_drew (S:=fun wx=>wx.rangeAt w1.heap.size 0 (rlC uG)) (by kernel_rfl) (UB.out _ G.out.drew.below) (fun hHeld=>?_)
 replace G:=Lib.hid G.out.drew
 generalize World.drew _=wd27 at *
 refine wpAnyH_take (i:=1) (oi:=?oi1x28) (v:=?v1x28) ?hi1x28 (by kernel_rfl) (by kernel_rfl) (by kernel_rfl) ?hq1x28 ?hy1x28 hHeld ?rest1x28
 case hi1x28=>((try simp only[List.getElem?_toArray,List.getElem?_cons_succ,List.getElem?_cons_zero]);(try rfl))
 case hq1x28=>exact fun _ _ _ h=>h
 case hy1x28 =>
  refine' yieldsIf_load_mid ?_ 24 (.tmp 1) ?_ w1.heap.size 0 ?_ (rlC uG) _ ?_ Tryz.underlying24 ?_ info5
  ·rfl
  ·rfl
  ·rfl
  ·exact fun _ h=>h
  ·rfl
 try simp only[Act.put,Lw.s1,Lw.s2,Lw.s3]
 refine wpAnyH_ready (rs:=[0]) (by kernel_rfl) (by simp) ?_
 refine AllReadyH.cons rfl (fun K' hK=>?_) AllReadyH.nil
 clear hHeld
 go_simp
 have SG:=Lib.hid (zeros_at wd27 201)
 replace G:=Lib.hid (G.out.call ((Below.refl _ wd27).alloc (Nat.le_refl _) (.cells (zC 201) 31)))
 refine hK.out _ _ (UB.out _ G.out.below) (fun hHeld=>?_)
 clear hK
 try simp only[Act.put,Lw.s1,Lw.s2,Lw.s3]
 refine wpAnyH_ready (rs:=[2]) (by kernel_rfl) (by simp) ?_
 refine AllReadyH.cons rfl (fun K' hK=>?_) AllReadyH.nil
 clear hHeld
 go_simp
 refine(FM.out _ _ (below_then FB.out G.out.below) SG.out).mono ?_
 rintro e wz ⟨Vm,rfl,kz, -⟩
 replace G:=Lib.hid (G.out.call kz)
 clear kz SG
 refine hK.out _ _ (UB.out _ G.out.below) (fun hHeld=>?_)
 clear hK
 try simp only[Act.put,Lw.s1,Lw.s2,Lw.s3]
 refine Lw.tK 3 hHeld (h:=?_)
 refine Lw.tK 4 hHeld (h:=?_)
 refine Lw.tK 5 hHeld (h:=?_)
 refine Lw.tK 6 hHeld (h:=?_)
 refine Lw.tK 7 hHeld (h:=?_)
 refine wpAnyH_done (by kernel_rfl) ?_ _
 clear FM UB m201 m1 GV RL
 go_upto_region 29 with(go_at_call 21;refine(AG1.out _).mono ?_;rintro e va1 ⟨rfl,k1⟩;have G1:=Lib.hid (G.out.call k1);clear k1)
 replace G:=G1
 clear G1 AG1
 go_upto_region 30 with(go_at_call 21;refine(AG2.out _).mono ?_;rintro e va2 ⟨rfl,k1⟩;have G1:=Lib.hid (G.out.call k1);clear k1)
 replace G:=G1
 clear G1 AG2
 go_upto_region 31 with(go_at_call 21;refine(AG3.out _).mono ?_;rintro e va3 ⟨rfl,k1⟩;have G1:=Lib.hid (G.out.call k1);clear k1)
 replace G:=G1
 clear G1 AG3
 go_upto_region 32 with(go_at_call 21;refine(AG4.out _).mono ?_;rintro e va4 ⟨rfl,k1⟩;have G1:=Lib.hid (G.out.call k1);clear k1)
 replace G:=G1
 clear G1 AG4
 go_wp2_with (first|(go_at_call 18;have G1:=(((G.out.alloc [.int .i64 0, .int .i64 1] 3).alloc [.int .i64 0, .int .i64 2] 3).alloc [.int .i64 1, .int .i64 2] 3).alloc [.slice (some ⟨va4.heap.size,0,none⟩) 2 2, .slice (some ⟨va4.heap.size+1,0,none⟩) 2 2, .slice (some ⟨va4.heap.size+1+1,0,none⟩) 2 2] 29;simp only[World.size_alloc] at G1;have G1:=Lib.hid G1;refine(SM.out _ _ _ (S9.out.below G1.out.below) (sets_k3 (G1.out.least 3 rfl).2 (G1.out.least 2 rfl).2 (G1.out.least 1 rfl).2 (G1.out.least 0 rfl).2 (G1.out.get 3 rfl) (G1.out.get 2 rfl) (G1.out.get 1 rfl) (G1.out.get 0 rfl))).mono ?_;rintro e vs ⟨rfl,q,rfl⟩;have G2:=Lib.hid (G1.out.call (drewN_below2 (Below.refl _ _) q));clear G1;generalize World.drewN _ q=vt at *;have c2:=G2.out.cell 6 2 rfl rfl;have c4:=G2.out.cell 6 4 rfl rfl)|(go_at_call 8;refine(AL.out _ (below_then FB.out G2.out.below)).mono ?_;rintro e vu ⟨rfl,ku⟩;have G3:=Lib.hid (G2.out.call ku);clear ku))
 exact bodyPost_ret (results_tmp rfl _ _ _) rfl ⟨rfl,below_then FB.out G3.out.below⟩
end Tw
end Go.Proofs.YtdnogmanbdgadaaGreatDoor
