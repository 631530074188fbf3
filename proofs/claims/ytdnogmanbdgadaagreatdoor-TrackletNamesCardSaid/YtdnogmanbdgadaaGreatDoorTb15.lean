/-
  Lemmas and walks, texts joined: TKSrt, TKMsk, TKAdd, TKLst, TKMx, TKMax.
-/
import Derived.Shelf.SlSortCmp.NoneTotal
import Derived.Laws.Bits64b
import Derived.LoopTactic
import Derived.ProofKit
import Derived.Lib.Hide
import Derived.Laws.RangeAny
import Derived.Deep.QuietTactic
import Derived.BigQuiet
import Derived.WalkLawsBesides
import Derived.WalkSpells
import Derived.Lib.SmallJoins
import Derived.Lib.LaidTab
import Derived.Laws.Concat
import Derived.Lib.Join
import Derived.Lib.Repeat
import Derived.Lib.ItoaLen
import Derived.Sort.Grow
import Derived.Deep.OwnRows
import Derived.Laws.StructEq
import Derived.Test.YtdnogmanbdgadaaGreatDoorTb11
import Derived.Test.YtdnogmanbdgadaaGreatDoorTb14
import Derived.Test.YtdnogmanbdgadaaGreatDoorTb04
import Derived.Test.YtdnogmanbdgadaaGreatDoorTb08
import Derived.Test.YtdnogmanbdgadaaGreatDoorTb01
import Derived.Test.YtdnogmanbdgadaaGreatDoorRows
set_option linter.unusedSimpArgs false
set_option linter.unusedVariables false
set_option maxRecDepth 100000
set_option maxHeartbeats 40000000
namespace Go.Proofs.YtdnogmanbdgadaaGreatDoor
namespace Tw
open Go.RowKit Lw Tk Ow Go.Shelf Go.Sort

theorem sort_heap {α:Type} [Inhabited α] (enc:α→Value) (w:World) (blk off m:Nat) (dk:Array α) (os:Array Obj) {k:Nat} (hk:k<w.heap.size) (hne:k≠blk):(sortWorld enc w blk off m dk os).heap[k]? = w.heap[k]?:=by
 unfold sortWorld grow putRow mapBlock
 show ((w.heap.modify blk _)++os)[k]? = _
 rw[Array.getElem?_append_left (by simpa using hk),Array.getElem?_modify,if_neg (fun e=>hne e.symm)]
theorem sort_size {α:Type} [Inhabited α] (enc:α→Value) (w:World) (blk off m:Nat) (dk:Array α) (os:Array Obj):w.heap.size≤(sortWorld enc w blk off m dk os).heap.size:=by
 unfold sortWorld grow putRow mapBlock
 show _≤((w.heap.modify blk _)++os).size
 simp
theorem sort_below {α:Type} [Inhabited α] (enc:α→Value) (w:World) (blk off m:Nat) (dk:Array α) (os:Array Obj) {B:Nat} (hB:B≤blk) (hw:B≤w.heap.size):Below B w (sortWorld enc w blk off m dk os) :=
 ⟨rfl,rfl,rfl,sort_size enc w blk off m dk os,fun k hk=>sort_heap enc w blk off m dk os (by omega) (by omega)⟩
def SetsAt (w:World) (V:Value) (K:List (List Nat)):Prop :=
 ∃ A cap,∃ S:List Sl,V = .slice A K.length cap∧S.length=K.length∧RowsG 1 slE w A S ∧ ∀ i (h:i<S.length) (h2:i<K.length),(S[i]'h).n=(K[i]'h2).length∧RowsG 1 inE w (S[i]'h).a (K[i]'h2)
theorem SetsAt.below {w w':World} {V:Value} {K:List (List Nat)} (h:SetsAt w V K) (hb:Below w.heap.size w w'):SetsAt w' V K:=by
 obtain⟨A,cap,S,h1,h2,h3,h4⟩:=h
 exact⟨A,cap,S,h1,h2,h3.below hb,fun i h g=>⟨(h4 i h g).1,(h4 i h g).2.below hb⟩⟩
theorem cmp_swo {α:Type} (f:α→List Nat):SWO (ltOf fun x y:α=>cmpL (f x) (f y)):=by
 have e:∀ x y:α,ltOf (fun x y:α=>cmpL (f x) (f y)) x y=ltL (f x) (f y):=fun x y=>cmp_lt _ _
 refine⟨fun x=>?_,fun x y z h1 h2=>?_,fun x y z h1 h2=>?_⟩
 ·rw[e];exact ltL_irrefl _
 ·rw[e] at *;exact ltL_trans _ _ _ h1 h2
 ·rw[e] at *
  rcases ltL_total (f x) (f y) with h|h|h
  ·rw[h];exact h2
  ·rw[h1] at h;cases h
  ·rcases ltL_total (f y) (f z) with g|g|g
   ·rw[← g];exact h1
   ·rw[h2] at g;cases g
   ·exact ltL_asymm _ _ (ltL_trans _ _ _ g h)
theorem sort_any (w:World) (B:Nat) (v:Value) (S:List Sl) (K:List (List Nat)) (hO:OwnG 29 1 slE w B v S) (hk:S.length=K.length)
  (hI:∀ i (h:i<S.length) (h2:i<K.length),(S[i]'h).n=(K[i]'h2).length∧RowsG 1 inE w (S[i]'h).a (K[i]'h2)) (hm:∀ s∈K,s.length≤1000000) (hS:S.length≤1000000) :
  Calls Tryz.prog 38 #[v, .func (.func 39) #[] #[]] w fun e w'=>e = .returned (.tuple #[])∧Below B w w' ∧ ∃ K',K'.Perm K∧K'.Pairwise (fun s t=>ltL t s=false)∧SetsAt w' v K':=by
 obtain⟨A,cap,rfl,hr,hge⟩:=OwnG.form (enc:=slE) (fun _=>rfl) hO
 by_cases h0:S = []
 ·subst h0
  have hK:K = []:=List.length_eq_zero_iff.1 hk.symm
  subst hK
  have:=AnyF.slices_SortFunc_none (P:=Tryz.prog) (ρ:=Tryz.slSort_ren) { Tryz.slSort with } A cap (.func (.func 39) #[] #[]) w
  refine this.mono ?_
  rintro e w' ⟨rfl,rfl⟩
  exact⟨rfl,Below.refl _ _,[],List.Perm.refl _,List.Pairwise.nil,A,cap,[],rfl,rfl,hr,fun i h=>by cases h⟩
 ·have hpos:=List.length_pos_iff.2 h0
  obtain⟨g,rfl,hg, -⟩:=hr.row 0 hpos
  have hgB:=hge g 0 rfl
  haveI:Inhabited (Fin S.length):=⟨⟨0,hpos⟩⟩
  have row:∀ i (h:i<S.length),w.cell? ⟨g,i,none⟩=some (.slice S[i].a S[i].n S[i].c):=fun i h=>by
   obtain⟨g',e, -,r⟩:=hr.row i h
   cases e
   have:=r 0 _ rfl
   rwa [Nat.mul_one,Nat.add_zero] at this
  obtain⟨cur,hblk⟩:∃ cur,w.heap[g]? = some (.cells cur 29 (0,0)):=by
   rcases hO.1.2 with⟨hv, -⟩|⟨g',c,cur,hv, -,hh, -⟩
   ·cases hv
   ·cases hv;exact⟨cur,hh⟩
  have hne:∀ i (h:i<S.length) (h2:i<K.length) (g':Nat),(S[i]'h).a=some ⟨g',0,none⟩→0<(K[i]'h2).length→g'≠g:=by
   intro i h h2 g' e hl
   rintro rfl
   obtain⟨g2,e2, -,r⟩:=(hI i h h2).2.row 0 hl
   rw[e] at e2
   cases e2
   have c1:=r 0 _ rfl
   have c0:=row 0 hpos
   rw[Nat.zero_mul,Nat.zero_add] at c1
   rw[c0] at c1
   cases c1
  have hint:∀ (m:Nat) (os:Array Obj) (dk:Array (Fin S.length)) i (h:i<S.length) (h2:i<K.length),RowsG 1 inE (sortWorld (fun i:Fin S.length=>Value.slice S[i.1].a S[i.1].n S[i.1].c) w g 0 m dk os) (S[i]'h).a (K[i]'h2):=by
   intro m os dk i h h2
   refine⟨fun q hq=>?_⟩
   obtain⟨g',e,lt,r⟩:=(hI i h h2).2.row q hq
   refine⟨g',e,Nat.lt_of_lt_of_le lt (sort_size _ _ _ _ _ _ _),fun j x hx=>?_⟩
   rw[World.cell?_of_block (w:=w) (sort_heap _ w g 0 m dk os lt (hne i h h2 g' e (by omega)))]
   exact r j x hx
  have hd:(Array.ofFn (fun i:Fin S.length=>i)).size=S.length:=Array.size_ofFn
  have hdj:∀ j (h:j<S.length),(Array.ofFn (fun i:Fin S.length=>i))[j]! = ⟨j,h⟩:=fun j h=>by
   rw[getElem!_pos _ j (by rw[hd];exact h),Array.getElem_ofFn]
  have hH:Holds (fun i:Fin S.length=>Value.slice S[i.1].a S[i.1].n S[i.1].c) w g 0 (Array.ofFn (fun i:Fin S.length=>i)):=fun j hj=>by
   rw[hd] at hj
   rw[hdj j hj,Nat.zero_add]
   exact⟨row j hj,by simp[World.frozen?,hblk]⟩
  have hcmp:CmpLays1 Tryz.prog 39 #[] (fun i:Fin S.length=>Value.slice S[i.1].a S[i.1].n S[i.1].c) (fun x y=>cmpL (K[x.1]'(by omega)) (K[y.1]'(by omega))) g 0 (Array.ofFn (fun i:Fin S.length=>i)).size w:=by
   intro m os dk hdk x y
   have h1:=hI x.1 x.2 (by omega)
   have h2:=hI y.1 y.2 (by omega)
   have:=find1_any _ _ S[x.1].c S[y.1].c _ _ _ (hint m os dk x.1 x.2 (by omega)) (hint m os dk y.1 y.2 (by omega)) (hm _ (List.getElem_mem _)) (hm _ (List.getElem_mem _))
   rw[← h1.1,← h2.1] at this
   exact this.mono fun e w' ⟨he,hw⟩=>⟨he,0,#[],by rw[hw,grow_empty];rfl⟩
  have hc:=Any.slices_SortFunc Tryz.slSort (fun i:Fin S.length=>Value.slice S[i.1].a S[i.1].n S[i.1].c) (fun _=>rfl) (fun x y=>cmpL (K[x.1]'(by omega)) (K[y.1]'(by omega))) (cmp_swo fun x:Fin S.length=>K[x.1]'(by omega)) 39 #[] g 0 cap (Array.ofFn (fun i:Fin S.length=>i)) w
   (enters_of Tryz.func39 (by kernel_rfl) rfl) hcmp hH hg (by rw[hd];omega)
  rw[hd] at hc
  refine hc.mono ?_
  rintro e w' ⟨rfl,d',n,os,⟨hsz, -,hperm⟩,hsort,rfl⟩
  rw[hd] at hsz
  rw[Array.extract_eq_self_of_le (by omega),Array.extract_eq_self_of_le (by omega)] at hperm
  have hhold:=(SW.holds (⟨n,os,rfl⟩:SW (fun i:Fin S.length=>Value.slice S[i.1].a S[i.1].n S[i.1].c) w g 0 d' _) hg hH (by rw[hd];exact hsz))
  refine⟨rfl,sort_below _ w g 0 n d' os hgB hO.2,d'.toList.map (fun i=>K[i.1]'(by omega)),?_,?_,some ⟨g,0,none⟩,cap,d'.toList.map (fun i=>S[i.1]),?_,?_,⟨fun i h=>?_⟩,fun i h h2=>?_⟩
  ·refine(hperm.map _).trans ?_
   refine List.Perm.of_eq (List.ext_getElem (by simp[hk]) fun i h1 h2=>?_)
   simp
  ·rw[List.pairwise_iff_getElem]
   intro i j hi hj hij
   simp only[List.length_map,Array.length_toList] at hi hj
   have:=hsort i j (Nat.zero_le _) hij (by omega)
   rw[getElem!_pos d' j hj,getElem!_pos d' i hi] at this
   simp only[List.getElem_map,Array.getElem_toList]
   rw[← cmp_lt]
   exact this
  ·have:S.length=(d'.toList.map (fun i=>K[i.1]'(by omega))).length:=hsz.symm.trans (by simp)
   exact congrArg (fun q=>Value.slice (some ⟨g,0,none⟩) q cap) this
  ·simp
  ·simp only[List.length_map,Array.length_toList] at h
   refine⟨g,rfl,Nat.lt_of_lt_of_le hg (sort_size _ _ _ _ _ _ _),fun j x hx=>?_⟩
   have hc1:=(hhold i h).1
   rw[getElem!_pos d' i h,Nat.zero_add] at hc1
   simp only[List.getElem_map,Array.getElem_toList] at hx
   obtain rfl:j=0:=by
    have:=(List.getElem?_eq_some_iff.1 hx).1
    simpa using this
   rw[Nat.mul_one,Nat.add_zero]
   rw[hc1]
   simpa using hx
  ·simp only[List.length_map,Array.length_toList] at h
   simp only[List.getElem_map,Array.getElem_toList]
   exact⟨(hI _ _ _).1,hint n os d' _ _ _⟩
end Tw
namespace Tw
open Go.RowKit Lw Tk Ow

abbrev mkV (x:Nat):Value:=.agg (mkE x).toArray
theorem andNot_val (a b:Nat) (ha:a<18446744073709551616) (hb:b<18446744073709551616) :
  bits .andNot .u64 (a:Int) (b:Int)=(((BitVec.ofNat 64 a &&& ~~~ BitVec.ofNat 64 b).toNat:Nat):Int):=by
 show IntKind.u64.wrap ((BitVec.ofInt 64 (a:Int) &&& ~~~ BitVec.ofInt 64 (b:Int)).toNat:Int)=_
 rw[BitVec.ofInt_natCast,BitVec.ofInt_natCast,IntKind.wrap_u64]
 have:=(BitVec.ofNat 64 a &&& ~~~ BitVec.ofNat 64 b).isLt
 omega
theorem andNot_zero {a b:Nat} (ha:a<512) (hb:b<512):bits .andNot .u64 (a:Int) (b:Int)=0↔inM a b=true:=by
 rw[andNot_val a b (by omega) (by omega)]
 have e:(((BitVec.ofNat 64 a &&& ~~~ BitVec.ofNat 64 b).toNat:Nat):Int)=0↔BitVec.ofNat 64 a &&& ~~~ BitVec.ofNat 64 b=0#64:=by
  constructor
  ·intro h
   apply BitVec.eq_of_toNat_eq
   simpa using h
  ·intro h;rw[h];rfl
 rw[e]
 unfold inM
 rw[decide_eq_true_iff]
 have g:∀ x i,(BitVec.ofNat 64 x).getLsbD i=(decide (i<64) && x.testBit i):=fun x i=>by rw[BitVec.getLsbD_ofNat]
 constructor
 ·intro h k hk
  obtain⟨h9,hx⟩:=mem_bits.1 hk
  have q:=congrArg (fun z=>z.getLsbD k) h
  simp only[BitVec.getLsbD_and,BitVec.getLsbD_not,g,BitVec.getLsbD_zero] at q
  refine mem_bits.2 ⟨h9,?_⟩
  have h64:k<64:=by omega
  simp only[h64,decide_true,Bool.true_and,hx] at q
  simpa using q
 ·intro h
  apply BitVec.eq_of_getLsbD_eq
  intro i hi
  simp only[BitVec.getLsbD_and,BitVec.getLsbD_not,g,BitVec.getLsbD_zero,hi,decide_true,Bool.true_and]
  cases hx:a.testBit i
  ·simp
  ·have h9:i<9:=by
    rcases Nat.lt_or_ge i 9 with q|q
    ·exact q
    ·rw[bit_high ha q] at hx;cases hx
   have:=(mem_bits.1 (h i (mem_bits.2 ⟨h9,hx⟩))).2
   rw[this];simp
theorem bits_neq {a:Int} (h:¬ a=0):(!(a==0))=true:=by simp[h]
theorem within_any (x y:Nat) (w:World) (hx:x<512) (hy:y<512) :
  Calls Tryz.prog 36 #[mkV x,mkV y] w fun e w'=>e = .returned (.bool (inM x y))∧Below w.heap.size w w':=by
 have F0:=((Fr.start w).alloc (mkE x) 82).alloc (mkE y) 82
 simp only[World.size_alloc] at F0
 have F0:=Lib.hid F0
 have Z0:bits .andNot .u64 0 0=0:=by decide
 have AN:=Lib.hid (andNot_zero hx hy)
 generalize hB:bits .andNot .u64 (x:Int) (y:Int)=B at *
 have HB:=Lib.hid hB
 clear hB
 go_enter Tryz.func36,Tryz.ntmps36
 go_wp2_with fail
 go_loopw [6] (fun z wr=>(z = .int .i64 0∨((z = .int .i64 1∨z = .int .i64 2∨z = .int .i64 3∨z = .int .i64 4)∧inM x y=true))∧Hid (Fr w [(w.heap.size+1,mkE y),(w.heap.size,mkE x)] wr)) (fun z _=>(4-intOf z).toNat)
 case atStart=>exact⟨Or.inl rfl,F0⟩
 case round =>
  clear F0
  obtain⟨hz,FQ⟩:=hrel
  obtain⟨x0,x1,x2,x3⟩:=FQ.out.c4 1 rfl
  obtain⟨y0,y1,y2,y3⟩:=FQ.out.c4 0 rfl
  rcases hz with rfl|⟨rfl|rfl|rfl|rfl,hin⟩
  ·go_wp2_with fail
   go_quiet (fail)
   have FN:=Lib.hid (FQ.out.drewN nq)
   clear FQ x0 x1 x2 x3 y0 y1 y2 y3
   rw[HB.out]
   by_cases hz:B=0
   ·have hin:=AN.out.1 hz
    subst hz
    clear HB AN
    go_wp2_with fail
    go_roundw
    case rel=>exact⟨Or.inr ⟨Or.inl rfl,hin⟩,FN⟩
    case measure=>simp[intOf]
   ·have hin:inM x y=false:=by
     cases h:inM x y
     ·rfl
     ·exact absurd (AN.out.2 h) hz
    have hz2:=bits_neq hz
    clear AN HB
    go_wp2_with fail
    refine bodyPost_ret (results_tmp rfl _ _ _) rfl ⟨?_,FN.out.below⟩
    exact congrArg (fun b=>Ending.returned (.bool b)) hin.symm
  ·go_wp2_with fail
   go_quiet (fail)
   have FN:=Lib.hid (FQ.out.drewN nq)
   clear FQ x0 x1 x2 x3 y0 y1 y2 y3
   go_wp2_with fail
   go_roundw
   case rel=>exact⟨Or.inr ⟨Or.inr (Or.inl rfl),hin⟩,FN⟩
   case measure=>simp[intOf]
  ·go_wp2_with fail
   go_quiet (fail)
   have FN:=Lib.hid (FQ.out.drewN nq)
   clear FQ x0 x1 x2 x3 y0 y1 y2 y3
   go_wp2_with fail
   go_roundw
   case rel=>exact⟨Or.inr ⟨Or.inr (Or.inr (Or.inl rfl)),hin⟩,FN⟩
   case measure=>simp[intOf]
  ·go_wp2_with fail
   go_quiet (fail)
   have FN:=Lib.hid (FQ.out.drewN nq)
   clear FQ x0 x1 x2 x3 y0 y1 y2 y3
   go_wp2_with fail
   go_roundw
   case rel=>exact⟨Or.inr ⟨Or.inr (Or.inr (Or.inr rfl)),hin⟩,FN⟩
   case measure=>simp[intOf]
  ·go_wp2_with fail
   refine bodyPost_ret (results_tmp rfl _ _ _) rfl ⟨?_,FQ.out.below⟩
   exact congrArg (fun b=>Ending.returned (.bool b)) hin.symm
end Tw
namespace Tw
open Go.RowKit Lw Tk Ow

theorem or_lt {x i:Nat} (hx:x<512) (hi:i<9):x ||| 2 ^ i<512:=by
 have:2 ^ i<2 ^ 9:=Nat.pow_lt_pow_right (by decide) hi
 exact Nat.or_lt_two_pow (n:=9) hx this
theorem add_any (b i x:Nat) (w:World) (hx:x<512) (hi:i<9) (hr:w.rangeAt b 0 (mkE x)) (ht:w.there b 0 4) :
  Calls Tryz.prog 33 #[.pointer (some ⟨b,0,none⟩), .int .i64 (i:Int)] w fun e w'=>e = .returned (.tuple #[]) ∧ ∃ n,w'=(w.setCell ⟨b,0,none⟩ (.int .u64 ((x ||| 2 ^ i:Nat):Int))).drewN n:=by
 have c0:w.cell? ⟨b,0,none⟩=some (.int .u64 (x:Int)):=hr 0 _ rfl
 have f0:w.frozen? ⟨b,0,none⟩=false:=(ht 0 (by omega)).2
 have B:=Lib.hid (fun (k:Nat) (hk:k<18446744073709551616)=>bits_or_u64_nat x k (by omega) hk)
 have hc:i=0∨i=1∨i=2∨i=3∨i=4∨i=5∨i=6∨i=7∨i=8:=by omega
 clear hr ht hx hi
 rcases hc with rfl|rfl|rfl|rfl|rfl|rfl|rfl|rfl|rfl
 all_goals
  go_enter Tryz.func33,Tryz.ntmps33
  go_wp2_with fail
 all_goals go_region
 ·have e:=B.out 1 (by decide)
  rw[show ((1:Nat):Int)=1 from rfl] at e
  rw[e]
  go_end0
  exact⟨rfl,1,rfl⟩
 ·have e:=B.out 2 (by decide)
  rw[show ((2:Nat):Int)=2 from rfl] at e
  rw[e]
  go_end0
  exact⟨rfl,1,rfl⟩
 ·have e:=B.out 4 (by decide)
  rw[show ((4:Nat):Int)=4 from rfl] at e
  rw[e]
  go_end0
  exact⟨rfl,1,rfl⟩
 ·have e:=B.out 8 (by decide)
  rw[show ((8:Nat):Int)=8 from rfl] at e
  rw[e]
  go_end0
  exact⟨rfl,1,rfl⟩
 ·have e:=B.out 16 (by decide)
  rw[show ((16:Nat):Int)=16 from rfl] at e
  rw[e]
  go_end0
  exact⟨rfl,1,rfl⟩
 ·have e:=B.out 32 (by decide)
  rw[show ((32:Nat):Int)=32 from rfl] at e
  rw[e]
  go_end0
  exact⟨rfl,1,rfl⟩
 ·have e:=B.out 64 (by decide)
  rw[show ((64:Nat):Int)=64 from rfl] at e
  rw[e]
  go_end0
  exact⟨rfl,1,rfl⟩
 ·have e:=B.out 128 (by decide)
  rw[show ((128:Nat):Int)=128 from rfl] at e
  rw[e]
  go_end0
  exact⟨rfl,1,rfl⟩
 ·have e:=B.out 256 (by decide)
  rw[show ((256:Nat):Int)=256 from rfl] at e
  rw[e]
  go_end0
  exact⟨rfl,1,rfl⟩
theorem bits_table:∀ b:Fin 512,b.1≠0→bitsL b.1=Lib.ctz 64 b.1::bitsL (b.1 &&& (b.1-1))∧(b.1 &&& (b.1-1))<b.1:=by decide +kernel
end Tw
namespace Tw
open Go.RowKit Lw Tk Ow

theorem gDB:Tryz.prog.globalNamed "math/bits.deBruijn64tab" = some 0:=by kernel_rfl
def DB (w:World):Prop:=Lib.TabIs Tryz.prog w "math/bits.deBruijn64tab" .u8 (Lib.deBruijn64tab.map fun (n:Nat)=>(n:Int))
theorem DB.below {w w':World} (h:DB w) (hb:Below w.heap.size w w'):DB w':=Joins.tab_stays gDB h hb (Nat.le_refl _)
theorem DB.at {w:World} (h:DB w):TabAt 0 Lib.deBruijn64tab w:=fun j hj=>by
 have c:=World.var?_cell gDB h j
 rw[c]
 have:Lib.deBruijn64tab.getD j 0=Lib.deBruijn64tab[j]'hj:=by simp[List.getD,hj]
 rw[this]
 simp[hj]
theorem tz_any (b:Nat) (w:World) (hb:b<512) (h:DB w):Calls Tryz.prog 70 #[.int .u64 (b:Int)] w fun e w'=>e = .returned (.int .i64 (Lib.ctz 64 b:Int))∧w'=w :=
 Any7.bits_TrailingZeros64 Tryz.lays7tz b (by omega) w (fun _=>h.at)
theorem bits_next {b:Nat} (hb:b<512) (h0:b≠0):bitsL b=Lib.ctz 64 b::bitsL (b &&& (b-1))∧(b &&& (b-1))<b:=bits_table ⟨b,hb⟩ h0
theorem bits_none:bitsL 0 = []:=by decide
theorem run_idx0 (a b c d:Int) (w:World):(Instr.index 82 (.agg #[.int .u64 a, .int .u64 b, .int .u64 c, .int .u64 d]) (.int .i64 0)).run Tryz.prog w = .ok (.int .u64 a) w:=by
 simp[Instr.index,go_sem,run_underlying Tryz.underlying82,Tryz.sizeOf80,Tryz.isAgg80]
theorem run_idx1 (a b c d:Int) (w:World):(Instr.index 82 (.agg #[.int .u64 a, .int .u64 b, .int .u64 c, .int .u64 d]) (.int .i64 1)).run Tryz.prog w = .ok (.int .u64 b) w:=by
 simp[Instr.index,go_sem,run_underlying Tryz.underlying82,Tryz.sizeOf80,Tryz.isAgg80]
theorem run_idx2 (a b c d:Int) (w:World):(Instr.index 82 (.agg #[.int .u64 a, .int .u64 b, .int .u64 c, .int .u64 d]) (.int .i64 2)).run Tryz.prog w = .ok (.int .u64 c) w:=by
 simp[Instr.index,go_sem,run_underlying Tryz.underlying82,Tryz.sizeOf80,Tryz.isAgg80]
theorem run_idx3 (a b c d:Int) (w:World):(Instr.index 82 (.agg #[.int .u64 a, .int .u64 b, .int .u64 c, .int .u64 d]) (.int .i64 3)).run Tryz.prog w = .ok (.int .u64 d) w:=by
 simp[Instr.index,go_sem,run_underlying Tryz.underlying82,Tryz.sizeOf80,Tryz.isAgg80]
theorem list_any (x:Nat) (w:World) (hx:x<512) (hT:DB w) :
  Calls Tryz.prog 37 #[mkV x] w fun e w'=>∃ V,e = .returned V∧OwnG 3 1 inE w' w.heap.size V (bitsL x)∧Below w.heap.size w w':=by
 have F0:=Lib.hid ((Fr.start w).alloc (mkE x) 82)
 have HT:=Lib.hid (fun w' (hb:Below w.heap.size w w')=>hT.below hb)
 clear hT
 go_enter Tryz.func37,Tryz.ntmps37
 go_wp2_with fail
 have O0:=Lib.hid (OwnG.nil (E:=3) (k:=1) (enc:=inE) _ w.heap.size F0.out.below.size)
 go_loopw [3,7] (fun v z wr=>((z = .int .i64 0∧Hid (OwnG 3 1 inE wr w.heap.size v []))∨((z = .int .i64 1∨z = .int .i64 2∨z = .int .i64 3∨z = .int .i64 4)∧Hid (OwnG 3 1 inE wr w.heap.size v (bitsL x))))∧Hid (Below w.heap.size w wr)) (fun _ z _=>(4-intOf z).toNat)
 case atStart=>exact⟨Or.inl ⟨rfl,O0⟩,Lib.hid F0.out.below⟩
 case round =>
  clear F0 O0
  obtain⟨hz,BB⟩:=hrel
  rcases hz with⟨rfl,OO⟩|⟨rfl|rfl|rfl|rfl,OO⟩
  ·go_wp2_with (first|simp only[run_idx0]|fail)
   go_loopw [3,5] (fun v z wr2=>∃ (b:Nat) (L:List Nat),z = .int .u64 (b:Int)∧b<512∧Hid (L++bitsL b=bitsL x)∧L.length≤9∧Hid (OwnG 3 1 inE wr2 w.heap.size v L)∧Hid (Below w.heap.size w wr2)) (fun _ z _=>(intOf z).toNat)
   case atStart=>exact⟨x,[],rfl,hx,Lib.hid rfl,by simp,OO,BB⟩
   case round =>
    clear OO BB
    obtain⟨b,L,rfl,hb,EL,hL,OO,BB⟩:=hrel
    by_cases h0:b=0
    ·subst h0
     have OX:=Lib.hid (show OwnG 3 1 inE wr w.heap.size _ (bitsL x) from by have e:=EL.out;rw[bits_none,List.append_nil] at e;rw[← e];exact OO.out)
     go_wp2_with fail
     go_roundw
     case rel=>exact⟨Or.inr ⟨Or.inl rfl,OX⟩,BB⟩
     case measure=>simp[intOf]
    ·obtain⟨e1,e2⟩:=bits_next hb h0
     have tz:=tz_any b wr hb (HT.out _ BB.out)
     have E3:=Lib.hid (show (L ++ [Lib.ctz 64 b])++bitsL (b &&& (b-1))=bitsL x by have e:=EL.out;rw[e1] at e;simpa using e)
     have hbi:(b:Int)≠0:=by omega
     have hw:IntKind.u64.wrap ((b:Int)-1)=((b-1:Nat):Int):=by rw[IntKind.wrap_u64];omega
     have ha:bits .and .u64 (b:Int) ((b-1:Nat):Int)=((b &&& (b-1):Nat):Int):=bits_and_u64_nat b (b-1) (by omega) (by omega)
     have hcz:Lib.ctz 64 b<9:=(mem_bits.1 (show Lib.ctz 64 b∈bitsL b by rw[e1];simp)).1
     generalize Lib.ctz 64 b=t at *
     have hl:L.length+1≤9:=by
      have h1:=congrArg List.length E3.out
      have h2:(bitsL x).length≤9:=Nat.le_trans (List.length_filter_le _ _) (by simp)
      simp at h1
      omega
     clear e1
     go_wp2_with (first|(go_at_call 70;refine tz.mono ?_;rintro e w2 ⟨rfl,rfl⟩)|(at_builtin;refine wp_appG 29 (.int .i64 0) 8 info_in Tryz.underlying29 rfl (by decide) (by decide) (fun _=>rfl) inE_one _ rfl (.tmp 17) (.tmp 23) rfl w.heap.size _ L t rfl rfl OO.out (by omega) ?_;intro v' w3 hO hb3;have OO:=Lib.hid hO;have BB:=Lib.hid (BB.out.trans hb3);clear hO hb3)|fail)
     go_roundw
     case rel=>exact⟨b &&& (b-1),L ++ [t],rfl,by omega,E3,by simp;omega,OO,BB⟩
     case measure=>simp[intOf];omega
  ·go_wp2_with (first|simp only[run_idx1]|fail)
   go_loopw [3,5] (fun v z wr2=>z = .int .u64 0∧Hid (OwnG 3 1 inE wr2 w.heap.size v (bitsL x))∧Hid (Below w.heap.size w wr2)) (fun _ _ _=>0)
   case atStart=>exact⟨rfl,OO,BB⟩
   case round =>
    clear OO BB
    obtain⟨rfl,OO,BB⟩:=hrel
    go_wp2_with fail
    go_roundw
    case rel=>exact⟨Or.inr ⟨Or.inr (Or.inl rfl),OO⟩,BB⟩
    case measure=>simp[intOf]
  ·go_wp2_with (first|simp only[run_idx2]|fail)
   go_loopw [3,5] (fun v z wr2=>z = .int .u64 0∧Hid (OwnG 3 1 inE wr2 w.heap.size v (bitsL x))∧Hid (Below w.heap.size w wr2)) (fun _ _ _=>0)
   case atStart=>exact⟨rfl,OO,BB⟩
   case round =>
    clear OO BB
    obtain⟨rfl,OO,BB⟩:=hrel
    go_wp2_with fail
    go_roundw
    case rel=>exact⟨Or.inr ⟨Or.inr (Or.inr (Or.inl rfl)),OO⟩,BB⟩
    case measure=>simp[intOf]
  ·go_wp2_with (first|simp only[run_idx3]|fail)
   go_loopw [3,5] (fun v z wr2=>z = .int .u64 0∧Hid (OwnG 3 1 inE wr2 w.heap.size v (bitsL x))∧Hid (Below w.heap.size w wr2)) (fun _ _ _=>0)
   case atStart=>exact⟨rfl,OO,BB⟩
   case round =>
    clear OO BB
    obtain⟨rfl,OO,BB⟩:=hrel
    go_wp2_with fail
    go_roundw
    case rel=>exact⟨Or.inr ⟨Or.inr (Or.inr (Or.inr rfl)),OO⟩,BB⟩
    case measure=>simp[intOf]
  ·go_wp2_with fail
   refine bodyPost_ret (results_tmp rfl _ _ _) rfl ⟨_,rfl,?_,BB.out⟩
   exact OO.out
end Tw
namespace Tw
open Go.RowKit Lw Tk Ow Go.Shelf

theorem equal_mk (x y:Nat) (w:World):(Op.equalIn 10000 82 (mkV x) (mkV y)).run Tryz.prog w = .ok (x==y) w:=by
 have hu:=Tryz.underlying82
 have e64:∀ (a b:Int) (w:World),(Op.equalIn 9999 80 (.int .u64 a) (.int .u64 b)).run Tryz.prog w = .ok (a==b) w:=fun a b w=>run_equalIn_int w 9998 80 .u64 .u64 a b Tryz.underlying80
 have hn:((x:Int)==(y:Int))=(x==y):=by
  by_cases h:x=y
  ·subst h;rw[beq_self_eq_true,beq_self_eq_true]
  ·have h2:(x:Int)≠(y:Int):=by omega
   rw[beq_false_of_ne h,beq_false_of_ne h2]
 rw[show (10000:Nat)=9999+1 from rfl,Op.equalIn,← hn]
 by_cases h:(x:Int)=(y:Int)
 ·obtain rfl:x=y:=by omega
  simp[run_underlying hu,Tryz.sizeOf80,Tryz.isAgg80,part,go_sem,List.range',List.forIn_cons,mkE,e64]
 ·simp[run_underlying hu,Tryz.sizeOf80,Tryz.isAgg80,part,go_sem,List.range',List.forIn_cons,mkE,e64,h]
theorem eq_mk:EqlAt Tryz.prog 82 (fun x:Nat=>.agg (mkE x).toArray) (fun x y=>x==y):=by
 refine⟨fun x y w=>?_,GuardAt.agg _ (by kernel_rfl)⟩
 rw[run_eql_struct]
 show ((Op.equalIn 10000 82 (mkV x) (mkV y)).run Tryz.prog w).andThen _=_
 rw[equal_mk];rfl
theorem index_nil (x:Nat) (w:World):Calls Tryz.prog 101 #[.slice none 0 0,mkV x] w fun e w'=>e = .returned (.int .i64 (-1))∧Below w.heap.size w w':=by
 have F0:=Lib.hid ((Fr.start w).alloc (mkE x) 82)
 go_enter Tryz.func101,Tryz.ntmps101
 go_wp2_with fail
 go_loopw [8] (fun z wr=>z = .int .i64 0∧Hid (Below w.heap.size w wr)) (fun _ _=>0)
 case atStart=>exact⟨rfl,Lib.hid F0.out.below⟩
 case round =>
  obtain⟨rfl,BB⟩:=hrel
  go_wp2_with fail
  refine bodyPost_ret (results_tmp rfl _ _ _) rfl ⟨rfl,BB.out⟩
theorem contains_nil (x:Nat) (w:World):Calls Tryz.prog 67 #[.slice none 0 0,mkV x] w fun e w'=>e = .returned (.bool false)∧Below w.heap.size w w':=by
 have F0:=(Fr.start w).alloc (mkE x) 82
 obtain⟨c0,c1,c2,c3⟩:=F0.c4 0 rfl
 have F0:=Lib.hid F0
 have hi:=index_nil x (w.alloc (.cells (mkE x).toArray 82))
 go_enter Tryz.func67,Tryz.ntmps67
 go_wp2_with (go_at_call 101;refine hi.mono ?_;rintro e w2 ⟨rfl,hb⟩;have FB:=Lib.hid (F0.out.call hb).below;clear hb)
 refine bodyPost_ret (results_tmp rfl _ _ _) rfl ⟨rfl,FB.out⟩
theorem contains_any {v:Value} (x:Nat) (L:List Nat) (w:World) (B:Nat) (hL:L.length≤1000000) (h:OwnG 82 4 mkE w B v L) :
  Calls Tryz.prog 67 #[v,mkV x] w fun e w'=>e = .returned (.bool (L.contains x))∧Below w.heap.size w w':=by
 obtain⟨A,cap,rfl,hr, -⟩:=OwnG.form (enc:=mkE) (fun _=>rfl) h
 rcases h.1.2 with⟨hv,h0⟩|⟨b,c,cur,hv,hb,hh,r⟩
 ·have:L = []:=List.length_eq_zero_iff.1 h0
  subst this
  rw[hv];exact contains_nil x w
 ·cases hv
  have:=AnyQ.slices_Contains Tryz.slCont 4 Tryz.isAgg82 Tryz.sizeOf82 mkE (fun _=>rfl) (fun x y=>x==y) eq_mk b 0 L.length cap L x w (Nat.le_refl _) (by omega) (fun j hj i u hu=>by
   obtain⟨g,e, -,r⟩:=hr.row j hj
   cases e
   rw[getElem!_pos L j hj] at hu
   have:=r i u hu
   rwa [Nat.zero_add])
  refine this.mono ?_
  rintro e w' ⟨rfl,hb⟩
  refine⟨?_,hb⟩
  rw[List.take_length]
  refine congrArg (fun b=>Ending.returned (.bool b)) ?_
  rw[List.any_beq]
/-! ### maximal -/
abbrev t2f:Value:=.func (.func 36) #[] #[]
theorem clo_any (a:Nat) (ha:a<512) (p q:Nat) (w0 W:World) (x:Fin 512) (hp:Fr w0 [(q,mkE a),(p,[t2f])] W) :
  Calls Tryz.prog 69 #[mkV x.1, .pointer (some ⟨q,0,none⟩), .pointer (some ⟨p,0,none⟩)] W fun e w'=>e = .returned (.bool (a != x.1 && inM a x.1))∧Below W.heap.size W w':=by
 obtain⟨x,hx⟩:=x
 dsimp only
 have F0:=hp.alloc (mkE x) 82
 have FB:=Lib.hid (((Fr.start W).alloc (mkE x) 82).below)
 obtain⟨x0,x1,x2,x3⟩:=F0.c4 0 rfl
 have f0:=F0.cell 2 0 rfl rfl
 obtain⟨a0,a1,a2,a3⟩:=F0.c4 1 rfl
 have hw:=within_any a x (W.alloc (.cells (mkE x).toArray 82)) ha hx
 have hn:(Op.equalIn 10000 82 (.agg #[.int .u64 (a:Int), .int .u64 0, .int .u64 0, .int .u64 0]) (.agg #[.int .u64 (x:Int), .int .u64 0, .int .u64 0, .int .u64 0])).run Tryz.prog (W.alloc (.cells (mkE x).toArray 82))=_:=equal_mk a x (W.alloc (.cells (mkE x).toArray 82))
 clear F0 hp
 by_cases h:a=x
 ·subst h
  have e1:(a != a)=false:=by simp
  rw[e1]
  rw[beq_self_eq_true] at hn
  clear hw
  go_enter Tryz.func69,Tryz.ntmps69
  go_wp2_with fail
  refine bodyPost_ret (results_tmp rfl _ _ _) rfl ⟨rfl,FB.out⟩
 ·have e1:(a != x)=true:=by simp[h]
  rw[e1,Bool.true_and]
  rw[beq_false_of_ne h] at hn
  go_enter Tryz.func69,Tryz.ntmps69
  go_wp2_with (go_at_call 36;refine hw.mono ?_;rintro e w2 ⟨rfl,hb⟩)
  refine bodyPost_ret (results_tmp rfl _ _ _) rfl ⟨rfl,below_then FB.out hb⟩
end Tw
namespace Tw
open Go.RowKit Lw Tk Ow Go.Shelf

theorem Fr.grow {w0 w w':World} {L:List (Nat×List Value)} (h:Fr w0 L w) {B:Nat} (hb:Below B w w') (h0:w0.heap.size≤B) (hL:∀ p∈L,p.1<B):Fr w0 L w' :=
 ⟨h.below.trans (hb.mono h0),h.lo,fun p hp=>Nat.lt_of_lt_of_le (h.hi p hp) hb.size,h.nd,fun p hp j v hj=>by
  rw[hb.cell (p:=⟨p.1,0+j,none⟩) (hL p hp)]
  exact h.row p hp j v hj,fun p hp j hj=>by
  rw[hb.cell (p:=⟨p.1,0+j,none⟩) (hL p hp),hb.frozen (p:=⟨p.1,0+j,none⟩) (hL p hp)]
  exact h.th p hp j hj⟩
theorem OwnG.least {α:Type} {E:TypeId} {k:Nat} {enc:α→List Value} {w:World} {B B':Nat} {v:Value} {l:List α} (h:OwnG E k enc w B v l) (hB:B'≤B):OwnG E k enc w B' v l:=by
 refine⟨⟨h.1.1,?_⟩,Nat.le_trans hB h.2⟩
 rcases h.1.2 with h|⟨g,cap,cur,h1,h2,h3⟩
 ·exact .inl h
 ·exact .inr ⟨g,cap,cur,h1,Nat.le_trans hB h2,h3⟩
theorem fins {M:List Nat} (h:∀ x∈M,x<512):∃ Z:List (Fin 512),Z.map Fin.val=M:=by
 induction M with
 | nil=>exact⟨[],rfl⟩
 | cons a M ih =>
  obtain⟨Z,hz⟩:=ih fun x hx=>h x (by simp[hx])
  exact⟨⟨a,h a (by simp)⟩::Z,by simp[hz]⟩
theorem maxTo_step {M L:List Nat} {i:Nat} (hi:i<M.length) {r:List Nat} (h:maxTo M L (M.drop i)=r) {L':List Nat}
  (e:(if L.contains M[i] || M.any (fun b=>M[i] != b && inM M[i] b) then L else L ++ [M[i]])=L'):maxTo M L' (M.drop (i+1))=r:=by
 rw[List.drop_eq_getElem_cons hi,maxTo,e] at h
 exact h
theorem maximal_any (A:Option Addr) (cap:Nat) (M:List Nat) (hM:∀ x∈M,x<512) (hl:M.length≤100000) (w:World) (hr:RowsG 4 mkE w A M) :
  Calls Tryz.prog 35 #[.slice A M.length cap,t2f] w fun e w'=>∃ V,e = .returned V∧OwnG 82 4 mkE w' w.heap.size V (maxTo M [] M)∧Below w.heap.size w w':=by
 have F0:=Lib.hid ((Fr.start w).alloc [t2f] 86)
 have HR:=Lib.hid (fun w' (hb:Below w.heap.size w w')=>hr.below hb)
 clear hr
 go_enter Tryz.func35,Tryz.ntmps35
 go_wp2_with fail
 have O0:=Lib.hid (OwnG.nil (E:=82) (k:=4) (enc:=mkE) (w.alloc (.cells [t2f].toArray 86)) (w.heap.size+1) (by simp))
 go_loopw [5,10] (fun v z wr=>∃ (i:Nat) (L:List Nat),z = .int .i64 (i:Int)∧i≤M.length∧L.length≤i∧Hid (maxTo M L (M.drop i)=maxTo M [] M)∧Hid (OwnG 82 4 mkE wr (w.heap.size+1) v L)∧Hid (Fr w [(w.heap.size,[t2f])] wr)) (fun _ z _=>((M.length:Int)-intOf z).toNat)
 case atStart=>exact⟨0,[],rfl,by omega,by simp,Lib.hid rfl,O0,F0⟩
 case round =>
  clear F0 O0
  obtain⟨i,L,rfl,hi,hL,EM,OO,FF⟩:=hrel
  by_cases hlt:i<M.length
  ·have rows:=(HR.out _ FF.out.below)
   obtain⟨g,rfl,hg,hrow⟩:=rows.row i hlt
   have g0:wr.cell? ⟨g,i*4,none⟩=some (.int .u64 (M[i]:Int)):=hrow 0 _ rfl
   have g1:=hrow 1 _ rfl
   have g2:=hrow 2 _ rfl
   have g3:=hrow 3 _ rfl
   have ha:M[i]<512:=hM _ (List.getElem_mem hlt)
   have ST:=Lib.hid (fun L'=>maxTo_step hlt EM.out (L':=L'))
   clear hrow
   generalize M[i]=a at *
   have FA:=FF.out.alloc (mkE a) 82
   obtain⟨a0,a1,a2,a3⟩:=FA.c4 0 rfl
   have OA:=OO.out.below ((Below.refl _ wr).alloc (Nat.le_refl _) (.cells (mkE a).toArray 82))
   have hc:=contains_any a L _ _ (by omega) OA
   have hii:IntKind.i64.wrap ((i:Int)+1)=((i+1:Nat):Int):=by rw[IntKind.wrap_i64];omega
   cases hcc:L.contains a
   ·rw[hcc] at hc
    obtain⟨Z,hZ⟩:=fins hM
    have hlen:Z.length=M.length:=by rw[← hZ,List.length_map]
    have eany:((Z.take M.length).any fun x=>a != x.1 && inM a x.1)=M.any (fun b=>a != b && inM a b):=by
     rw[← hlen,List.take_length,← hZ,List.any_map];rfl
    have CF:=Lib.hid (fun w2 (hb:Below (wr.alloc (.cells (mkE a).toArray 82)).heap.size (wr.alloc (.cells (mkE a).toArray 82)) w2) =>
     AnyQ.slices_ContainsFunc Tryz.slContF 4 Tryz.isAgg82 Tryz.sizeOf82 (fun x:Fin 512=>mkE x.1) (fun _=>rfl) (fun x=>a != x.1 && inM a x.1) 69 #[.pointer (some ⟨wr.heap.size,0,none⟩), .pointer (some ⟨w.heap.size,0,none⟩)]
      (enters_of Tryz.func69 (by kernel_rfl) rfl) g 0 M.length cap Z w2
      (fun W x hW=>(clo_any a ha w.heap.size wr.heap.size w W x (FA.call (below_then hb hW))).mono fun _ _ ⟨he,hb'⟩=>⟨he,below_then hW hb'⟩) (by omega) (by omega) (by have:=hb.size;simp only[World.size_alloc] at this;omega)
      (fun j hj q u hu=>by
       have hjm:j<M.length:=by omega
       have hbw:=below_then ((Below.refl _ wr).alloc (Nat.le_refl _) (.cells (mkE a).toArray 82)) hb
       obtain⟨g',e, -,r⟩:=(rows.below hbw).row j hjm
       cases e
       rw[getElem!_pos Z j hj] at hu
       have e3:M[j]=(Z[j]).1:=by simp only[← hZ,List.getElem_map]
       have:=r q u (by rw[e3];exact hu)
       rwa [Nat.zero_add]))
    rw[eany] at CF
    clear hZ
    cases hca:M.any (fun b=>a != b && inM a b)
    ·rw[hca] at CF
     have E2:=Lib.hid (ST.out (L ++ [a]) (by rw[hcc,hca];rfl))
     clear ST
     go_wp2_with (first|(go_at_call 67;refine hc.mono ?_;rintro e w2 ⟨rfl,hb⟩;have CG:=CF.out _ hb;have F2:=FA.call hb;obtain⟨a0,a1,a2,a3⟩:=F2.c4 0 rfl;have F2:=Lib.hid F2;have O2:=Lib.hid (OA.below hb);clear hb)|(go_at_call 68;refine CG.mono ?_;rintro e w3 ⟨rfl,hb⟩;have F3:=F2.out.call hb;obtain⟨a0,a1,a2,a3⟩:=F3.c4 0 rfl;have F3:=Lib.hid F3;have O3:=Lib.hid (O2.out.below hb);clear hb)|(at_builtin;refine wp_appG 76 (.agg #[.int .u64 0, .int .u64 0, .int .u64 0, .int .u64 0]) 32 info_mk Tryz.underlying76 rfl (by decide) (by decide) (fun _=>rfl) mkE_one _ rfl (.tmp 22) (.tmp 24) rfl (w.heap.size+1) _ L a rfl rfl O3.out (by omega) ?_;intro v' w4 hO hb4;have O4:=Lib.hid hO;have F4:=Lib.hid (F3.out.tail.grow hb4 (by omega) (fun p hp=>by rcases List.mem_singleton.1 hp with rfl;exact Nat.lt_succ_self _));clear hO hb4)|fail)
     go_roundw
     case rel=>exact⟨i+1,L ++ [a],rfl,by omega,by simp;omega,E2,O4,F4⟩
     case measure=>simp[intOf];omega
    ·rw[hca] at CF
     have E2:=Lib.hid (ST.out L (by rw[hcc,hca];rfl))
     clear ST
     go_wp2_with (first|(go_at_call 67;refine hc.mono ?_;rintro e w2 ⟨rfl,hb⟩;have CG:=CF.out _ hb;have F2:=Lib.hid (FA.call hb);have O2:=Lib.hid (OA.below hb);clear hb)|(go_at_call 68;refine CG.mono ?_;rintro e w3 ⟨rfl,hb⟩;have F3:=Lib.hid (F2.out.call hb).tail;have O3:=Lib.hid (O2.out.below hb);clear hb))
     go_roundw
     case rel=>exact⟨i+1,L,rfl,by omega,by omega,E2,O3,F3⟩
     case measure=>simp[intOf];omega
   ·rw[hcc] at hc
    have E2:=Lib.hid (ST.out L (by rw[hcc];rfl))
    clear ST
    go_wp2_with (go_at_call 67;refine hc.mono ?_;rintro e w2 ⟨rfl,hb⟩;have F2:=Lib.hid (FA.call hb).tail;have O2:=Lib.hid (OA.below hb);clear hb)
    go_roundw
    case rel=>exact⟨i+1,L,rfl,by omega,by omega,E2,O2,F2⟩
    case measure=>simp[intOf];omega
  ·obtain rfl:i=M.length:=by omega
   have E2:=EM.out
   rw[List.drop_length] at E2
   go_wp2_with fail
   refine bodyPost_ret (results_tmp rfl _ _ _) rfl ⟨_,rfl,?_,FF.out.below⟩
   rw[← E2]
   exact OO.out.least (by omega)
end Tw
end Go.Proofs.YtdnogmanbdgadaaGreatDoor
