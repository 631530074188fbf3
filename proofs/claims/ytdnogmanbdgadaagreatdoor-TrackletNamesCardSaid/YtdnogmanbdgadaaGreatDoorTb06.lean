/-
  Lemmas and walks, texts joined: MParse, MNmPl, OPl, PRead2, OWord.
-/
import Derived.Deep.RegionHeld3
import Derived.Lib.SmallJoins
import Derived.Lib.LaidTab
import Derived.Laws.Concat
import Derived.Lib.Repeat
import Derived.Lib.ItoaLen
import Derived.Sort.Grow
import Derived.StillTailTactics
import Derived.WalkKit
import Derived.Lib.BitFns
import Derived.Laws.Bits64b
import Derived.LoopTactic
import Derived.Lib.AtoiErrMem
import Derived.ProofKit
import Derived.Lib.Hide
import Derived.Laws.RangeAny
import Derived.Deep.QuietTactic
import Derived.BigQuiet
import Derived.WalkLawsBesides
import Derived.WalkSpells
import Derived.Laws.BitsAllLaws
import Derived.Laws.IdiomStrings
import Derived.Deep.DeepCutAuto
import Derived.Test.YtdnogmanbdgadaaGreatDoorTb05
import Derived.Test.YtdnogmanbdgadaaGreatDoorTb02
import Derived.Test.YtdnogmanbdgadaaGreatDoorTb01
import Derived.Test.YtdnogmanbdgadaaGreatDoorTb04
import Derived.Test.YtdnogmanbdgadaaGreatDoorTb03
import Derived.Test.YtdnogmanbdgadaaGreatDoorRows
set_option linter.unusedSimpArgs false
set_option linter.unusedVariables false
set_option maxRecDepth 100000
set_option maxHeartbeats 40000000
namespace Go.Proofs.YtdnogmanbdgadaaGreatDoor
namespace Ap
open Go.RowKit Lw Go.Proofs.YtdnogmanbdgadaaGreatDoor.Mp

theorem digs {h p:ByteArray} {i j:Nat} (hl:likeP h p) (hj:j≤h.size) (hp:∀ k,i≤k→k<j→bt p k=48):allD (h.extract i j).data.toList:=by
 rw[allD_bt]
 intro k hk
 rw[size_ext h i j hj] at hk
 rw[bt_ext h i j k hj (by omega)]
 exact(hl.2 (i+k) (by omega)).1 (hp (i+k) (by omega) (by omega))
theorem P19_d:∀ k,k<19→(bt P19 k=48↔¬ (k=4∨k=7∨k=10∨k=13∨k=16)):=by decide
theorem grp19 (h:ByteArray) (hs:h.size=19):grpL h P19 19 = [numL (h.extract 0 4).data.toList,numL (h.extract 5 7).data.toList,numL (h.extract 8 10).data.toList,numL (h.extract 11 13).data.toList,numL (h.extract 14 16).data.toList,numL (h.extract 17 19).data.toList]:=by
 have d:∀ i n,i+n≤19→(¬ (i≤4∧4<i+n)∧¬ (i≤7∧7<i+n)∧¬ (i≤10∧10<i+n)∧¬ (i≤13∧13<i+n)∧¬ (i≤16∧16<i+n)) → ∀ j,i≤j→j<i+n→bt P19 j=48:=fun i n h1 h2 j a b=>(P19_d j (by omega)).2 (by omega)
 have n:∀ k,k<19→(k=4∨k=7∨k=10∨k=13∨k=16)→¬ bt P19 k=48:=fun k hk h e=>(P19_d k hk).1 e h
 have r0:=grp_run h P19 0 rfl 4 (by omega) (by omega) (d 0 4 (by omega) (by omega))
 have r1:=grp_run h P19 5 (decide_eq_false (n 4 (by omega) (by omega))) 2 (by omega) (by omega) (d 5 2 (by omega) (by omega))
 have r2:=grp_run h P19 8 (decide_eq_false (n 7 (by omega) (by omega))) 2 (by omega) (by omega) (d 8 2 (by omega) (by omega))
 have r3:=grp_run h P19 11 (decide_eq_false (n 10 (by omega) (by omega))) 2 (by omega) (by omega) (d 11 2 (by omega) (by omega))
 have r4:=grp_run h P19 14 (decide_eq_false (n 13 (by omega) (by omega))) 2 (by omega) (by omega) (d 14 2 (by omega) (by omega))
 have r5:=grp_run h P19 17 (decide_eq_false (n 16 (by omega) (by omega))) 2 (by omega) (by omega) (d 17 2 (by omega) (by omega))
 have s4:=grp_skip (s:=h) (n 4 (by omega) (by omega))
 have s7:=grp_skip (s:=h) (n 7 (by omega) (by omega))
 have s10:=grp_skip (s:=h) (n 10 (by omega) (by omega))
 have s13:=grp_skip (s:=h) (n 13 (by omega) (by omega))
 have s16:=grp_skip (s:=h) (n 16 (by omega) (by omega))
 simp only[Nat.reduceAdd] at r0 r1 r2 r3 r4 r5 s4 s7 s10 s13 s16
 rw[r5,s16,r4,s13,r3,s10,r2,s7,r1,s4,r0]
 rfl
theorem nm_of {s p:ByteArray} {m i j:Nat} (hl:likeP (s.extract 0 m) p) (hm:m≤s.size) (hj:j≤m) (hp:∀ k,i≤k→k<j→bt p k=48):numL ((s.extract 0 m).extract i j).data.toList=nm s i j:=by
 have hs:(s.extract 0 m).size=m:=by rw[size_ext s _ _ hm];omega
 have d:=digs hl (by omega) hp
 have e:(s.extract 0 m).extract i j=s.extract i j:=by rw[ByteArray.extract_extract];congr 1 <;> omega
 rw[e] at d ⊢
 exact(numV_yes d).symm
theorem vals19 {s:ByteArray} (hl:likeP (s.extract 0 19) P19) (hs:19≤s.size):grpL (s.extract 0 19) P19 (s.extract 0 19).size = [nm s 0 4,nm s 5 7,nm s 8 10,nm s 11 13,nm s 14 16,nm s 17 19]:=by
 have h19:(s.extract 0 19).size=19:=by rw[size_ext s _ _ hs]
 have d:∀ i j,j≤19→(¬ (i≤4∧4<j)∧¬ (i≤7∧7<j)∧¬ (i≤10∧10<j)∧¬ (i≤13∧13<j)∧¬ (i≤16∧16<j)) → ∀ k,i≤k→k<j→bt P19 k=48:=fun i j h1 h2 k a b=>(P19_d k (by omega)).2 (by omega)
 rw[h19,grp19 _ h19]
 rw[nm_of hl hs (by omega) (d 0 4 (by omega) (by omega)),nm_of hl hs (by omega) (d 5 7 (by omega) (by omega)),nm_of hl hs (by omega) (d 8 10 (by omega) (by omega)),nm_of hl hs (by omega) (d 11 13 (by omega) (by omega)),nm_of hl hs (by omega) (d 14 16 (by omega) (by omega)),nm_of hl hs (by omega) (d 17 19 (by omega) (by omega))]
theorem run19:∀ k,k<P19.size→runAt P19 k≤8:=by decide
theorem run6:∀ k,k<P6.size→runAt P6 k≤8:=by decide
theorem row_cells {w:World} {base:Nat} {e:TypeId} {v:Value} {n:Nat} {xs:List Value} (h:w.ownsRow base e 1 v n xs) (hn:0<n) :
  ∃ g cap,v = .slice (some ⟨g,0,none⟩) n cap∧g<w.heap.size ∧ ∀ j u,xs[j]? = some u→w.cell? ⟨g,j,none⟩=some u:=by
 obtain⟨g,cap,rfl,_,hg⟩:=h.form hn
 refine⟨g,cap,rfl,hg,fun j u hu=>?_⟩
 have ce:=h.cells (g:=g) rfl j u hu
 have ae:(⟨g,0,none⟩:Addr).add j=⟨g,j,none⟩:=by
  unfold Addr.add
  split
  ·simp[*]
  ·simp
 rwa [ae] at ce
theorem empty_yes {t:ByteArray} (h:t.size=0):t.toList.isEmpty=true:=by
 rw[Lib.toList_data,List.isEmpty_iff_length_eq_zero];simpa using h
theorem empty_no {t:ByteArray} (h:t.size≠0):t.toList.isEmpty=false:=by
 rw[Lib.toList_data,Bool.eq_false_iff,ne_eq,List.isEmpty_iff_length_eq_zero];simpa using h
def ParsePost (s:ByteArray) (w:World) (e:Ending) (w':World):Prop:=∃ t c:Int,e = .returned (.tuple #[.int .i64 t, .int .i64 c])∧ParseIs s t c∧Below w.heap.size w w'
theorem parse_not {s:ByteArray} (h:¬ progT s):ParseIs s 0 12:=Or.inr ⟨fun g=>h (text_prog g.1),rfl,rfl⟩
theorem parse_any (s:ByteArray) (w:World) (hs:s.size≤100) :
  Calls Tryz.prog 51 #[.string s] w (ParsePost s w):=by
 have M:maxLen=9223372036854775807:=rfl
 have SU:=suf_any s w (by omega)
 have rs:(noZ s).size≤100:=by
  unfold noZ
  split
  ·rw[size_ext s _ _ (by omega)];omega
  ·exact hs
 obtain⟨r,er⟩:∃ r,noZ s=r:=⟨_,rfl⟩
 have ER:=Lib.hid er
 rw[er] at SU rs
 clear er
 have CU:=Lib.hid (fun w'=>cut_any r w' (by omega))
 generalize hz:decide (zP s)=zb at SU
 generalize hp:decide (ptS r<r.size)=pb at CU
 replace hz:=Lib.hid hz
 replace hp:=Lib.hid hp
 go_enter Tryz.func51,Tryz.ntmps51
 go_wp2_with fail
 refine SU.mono ?_
 rintro e w1 ⟨rfl,rfl⟩
 go_wp2_with fail
 refine(CU.out _).mono ?_
 rintro e w1 ⟨rfl,hb1⟩
 have B1:=Lib.hid hb1
 clear hb1 SU CU
 have hsz:(hdP r).size≤100:=by unfold hdP;rw[size_ext r _ _ (ptS_le r)];have:=ptS_le r;omega
 obtain⟨h,eh⟩:∃ h,hdP r=h:=⟨_,rfl⟩
 obtain⟨t,et⟩:∃ t,tlP r=t:=⟨_,rfl⟩
 rw[eh,et]
 rw[eh] at hsz
 have FH:=Lib.hid (fun w'=>fields_any h P19 w' (by decide) (by omega) run19)
 have EH:=Lib.hid eh
 have ET:=Lib.hid et
 clear eh et
 go_wp2_with fail
 refine(FH.out _).mono ?_
 rintro e w2 ⟨hb2,hf⟩
 have B2:=Lib.hid (below_then B1.out hb2)
 clear hb2 FH
 rcases hf with⟨lk,v,rfl,hown⟩|⟨lk,rfl⟩
 ·cases zb with
  | false =>
   have N:=Lib.hid (parse_not (s:=s) fun g=>absurd g.1 (of_decide_eq_false hz.out))
   clear lk hown
   go_wp2_with fail
   go_ret2
   exact⟨0,12,rfl,N.out,B2.out⟩
  | true =>
   by_cases ht:pb=true∧(t.size=0∨6<t.size)
   ·obtain⟨rfl,ht⟩:=ht
    have N:=Lib.hid (parse_not (s:=s) fun g=>by
     have:=g.2.2.1
     rw[ER.out,ET.out] at this
     have:=this (of_decide_eq_true hp.out)
     omega)
    rcases ht with ht|ht
    ·have em:=empty_yes ht
     clear hown lk ht
     go_wp2_with fail
     go_ret2
     exact⟨0,12,rfl,N.out,B2.out⟩
    ·have em:=empty_no (t:=t) (by omega)
     have ht':(6:Int)<(t.size:Int):=by omega
     clear hown lk ht
     go_wp2_with fail
     go_ret2
     exact⟨0,12,rfl,N.out,B2.out⟩
   ·have ht6:t.size≤6∧(pb=true→1≤t.size):=by
     cases pb with
     | true=>exact⟨Nat.le_of_not_lt fun h=>ht ⟨rfl,Or.inr h⟩,fun _=>Nat.pos_of_ne_zero fun h=>ht ⟨rfl,Or.inl h⟩⟩
     | false =>
      have e:tlP r=⟨#[]⟩:=if_neg (of_decide_eq_false hp.out)
      rw[ET.out] at e
      rw[e]
      exact⟨by decide,fun g=>by cases g⟩
    obtain⟨ht6,ht1⟩:=ht6
    have GT:Hid (allD t.data.toList→progT s):=Lib.hid fun ad=>⟨of_decide_eq_true hz.out,by rw[ER.out,EH.out];exact lk,by
     rw[ER.out,ET.out]
     intro hlt
     have:=ht1 (hp.out.symm.trans (decide_eq_true hlt))
     omega,by rw[ER.out,ET.out];exact ad⟩
    have T6:=Lib.hid ht6
    have HO:=Lib.hid (And.intro lk hown)
    have hcase:pb=false∨(pb=true∧t.toList.isEmpty=false):=by
     cases pb with
     | true=>exact Or.inr ⟨rfl,empty_no (by have:=ht1 rfl;omega)⟩
     | false=>exact Or.inl rfl
    have i0:0≤(t.size:Int):=by omega
    have i6:(t.size:Int)≤6:=by omega
    have i7:¬ (6:Int)<(t.size:Int):=by omega
    clear ht ht1 ht6 lk hown hz hp
    rcases hcase with rfl|⟨rfl,em⟩
    all_goals
     go_wp2_with fail
     refine(fields_any (pad6 t) P6 w2 (by decide) (by rw[pad6_size t T6.out];omega) run6).mono ?_
     rintro e w3 ⟨hb3,hf2⟩
     have B3:=Lib.hid (below_then B2.out hb3)
     have b3:=Lib.hid hb3
     clear hb3
     rcases hf2 with⟨lk2,v2,rfl,hown2⟩|⟨lk2,rfl⟩
     ·have g:=GT.out ((like6 t T6.out).1 lk2)
      obtain⟨tp,hh,mv⟩:=prog_text g
      rw[ER.out,EH.out] at hh
      rw[ER.out,ET.out] at mv
      rw[grp6 t T6.out] at hown2
      obtain⟨lk,hown⟩:=HO.out
      rw[hh] at lk hown
      rw[vals19 lk (by have:=tp.1;omega)] at hown
      obtain⟨g1,cap1,rfl,hg1,hc1⟩:=row_cells hown (by simp)
      obtain⟨g2,cap2,rfl,hg2,hc2⟩:=row_cells hown2 (by simp)
      have q0:=(b3.out.cell (p:=⟨g1,0,none⟩) hg1).trans (hc1 0 _ rfl)
      have q1:=(b3.out.cell (p:=⟨g1,1,none⟩) hg1).trans (hc1 1 _ rfl)
      have q2:=(b3.out.cell (p:=⟨g1,2,none⟩) hg1).trans (hc1 2 _ rfl)
      have q3:=(b3.out.cell (p:=⟨g1,3,none⟩) hg1).trans (hc1 3 _ rfl)
      have q4:=(b3.out.cell (p:=⟨g1,4,none⟩) hg1).trans (hc1 4 _ rfl)
      have q5:=(b3.out.cell (p:=⟨g1,5,none⟩) hg1).trans (hc1 5 _ rfl)
      have q6:=hc2 0 _ rfl
      rw[← mv] at q6
      have lg1:g1<w3.heap.size:=Nat.lt_of_lt_of_le hg1 b3.out.size
      have TP:=Lib.hid tp
      clear lk2 hown2 hown hc1 hc2 hg1 mv tp g lk hh HO GT b3
      have FU:=Lib.hid (fun w'=>Mw.from_any (nm s 0 4) (nm s 5 7) (nm s 8 10) (nm s 11 13) (nm s 14 16) (nm s 17 19) (microV s) w')
      have PI:Hid (∀ a c,FromIs (nm s 0 4) (nm s 5 7) (nm s 8 10) (nm s 11 13) (nm s 14 16) (nm s 17 19) (microV s) a c→(c=0∧ParseIs s a 0)∨(c=2∧ParseIs s 0 12)):=Lib.hid fun a c hf=>by
       rcases hf with⟨f1,f2,f3⟩|⟨f1,f2,f3⟩
       ·exact Or.inl ⟨f3,Or.inl ⟨⟨TP.out,f1⟩,f2,rfl⟩⟩
       ·exact Or.inr ⟨f3,Or.inr ⟨fun k=>f1 k.2,rfl,rfl⟩⟩
      clear TP
      generalize nm s 0 4=a0 at *
      generalize nm s 5 7=a1 at *
      generalize nm s 8 10=a2 at *
      generalize nm s 11 13=a3 at *
      generalize nm s 14 16=a4 at *
      generalize nm s 17 19=a5 at *
      generalize microV s=a6 at *
      go_wp2_with fail
      go_region_held3 (fun w'=>w'.cell? ⟨g1,0,none⟩=some (.int .i64 a0)∧w'.cell? ⟨g1,1,none⟩=some (.int .i64 a1)∧w'.cell? ⟨g1,2,none⟩=some (.int .i64 a2)∧w'.cell? ⟨g1,3,none⟩=some (.int .i64 a3)∧w'.cell? ⟨g1,4,none⟩=some (.int .i64 a4)∧w'.cell? ⟨g1,5,none⟩=some (.int .i64 a5)∧w'.cell? ⟨g2,0,none⟩=some (.int .i64 a6)) (go_keep) (first|(go_at_call 85;refine(FU.out _).mono ?_;rintro e w4 ⟨ti,c,rfl,hfi,hb4⟩;have m0:=(hb4.cell (p:=⟨g1,0,none⟩) lg1).trans q0;have m1:=(hb4.cell (p:=⟨g1,1,none⟩) lg1).trans q1;have m2:=(hb4.cell (p:=⟨g1,2,none⟩) lg1).trans q2;have m3:=(hb4.cell (p:=⟨g1,3,none⟩) lg1).trans q3;have m4:=(hb4.cell (p:=⟨g1,4,none⟩) lg1).trans q4;have m5:=(hb4.cell (p:=⟨g1,5,none⟩) lg1).trans q5;have m6:=(hb4.cell (p:=⟨g2,0,none⟩) hg2).trans q6))
      have B4:=Lib.hid (below_then B3.out.drew hb4)
      rcases PI.out ti c hfi with⟨rfl,hpi⟩|⟨rfl,hpi⟩
      ·go_wp2_with fail
       go_ret2
       exact⟨ti,0,rfl,hpi,B4.out⟩
      ·go_wp2_with fail
       go_ret2
       exact⟨0,12,rfl,hpi,B4.out⟩
     ·have N:=Lib.hid (parse_not (s:=s) fun g=>lk2 ((like6 t T6.out).2 (by have:=g.2.2.2;rwa [ER.out,ET.out] at this)))
      go_wp2_with fail
      go_ret2
      exact⟨0,12,rfl,N.out,B3.out⟩
 ·have N:=Lib.hid (parse_not (s:=s) fun g=>lk (by have:=g.2.1;rwa [ER.out,EH.out] at this))
  cases zb
  all_goals
   go_wp2_with fail
   go_ret2
   exact⟨0,12,rfl,N.out,B2.out⟩
end Ap
namespace At
open Go.RowKit Lw Ap Go.Proofs.YtdnogmanbdgadaaGreatDoor.Mp Go.Proofs.YtdnogmanbdgadaaGreatDoor.Mw

instance (y m d h i s u:Int):Decidable (fromOk y m d h i s u):=by unfold fromOk wholeP leapday;infer_instance
instance (s:ByteArray):Decidable (textP s):=by unfold textP;infer_instance
instance (s:ByteArray):Decidable (okText s):=by unfold okText;infer_instance
theorem parse_k {s:ByteArray} {t:Int} (a:okText s) (b:textV s=t):ParseIs s t 0:=Or.inl ⟨a,b.symm,rfl⟩
/-! ### The constants of alive -/
end At
namespace Op
open Go.RowKit Lw Go.Proofs.YtdnogmanbdgadaaGreatDoor.Ap Go.Proofs.YtdnogmanbdgadaaGreatDoor.Mp

/-! ### Words -/
def dgP (c:Int):Prop:=48≤c∧c≤57
def ltP (c:Int):Prop:=(65≤c∧c≤90)∨(97≤c∧c≤122)
instance (c:Int):Decidable (dgP c):=by unfold dgP;infer_instance
instance (c:Int):Decidable (ltP c):=by unfold ltP;infer_instance
def dgB (c:Int):Bool:=decide (dgP c)
def ltB (c:Int):Bool:=decide (ltP c)
def wordP (l:List UInt8):Prop:=∀ c∈l,dgP (c.toNat:Int)∨ltP (c.toNat:Int)
instance (l:List UInt8):Decidable (wordP l):=by unfold wordP;infer_instance
def wordB (l:List UInt8):Bool:=decide (wordP l)
theorem wordP_snoc {l:List UInt8} {c:UInt8} (h:wordP l) (g:dgP (c.toNat:Int)∨ltP (c.toNat:Int)):wordP (l ++ [c]):=fun x hx=>by
 rcases List.mem_append.1 hx with hx|hx
 ·exact h x hx
 ·rw[List.mem_singleton.1 hx];exact g
theorem word_not (s:ByteArray) (k:Nat) (hk:k<s.size) (h:¬ (dgP (s[k].toNat:Int)∨ltP (s[k].toNat:Int))):wordB s.data.toList=false:=by
 refine decide_eq_false fun g=>h (g _ ?_)
 have:s[k]=s.data.toList[k]'(by simpa using hk):=rfl
 rw[this];exact List.getElem_mem _
theorem word_all (s:ByteArray) (k:Nat) (hk:¬ k<s.size) (h:wordP (s.data.toList.take k)):wordB s.data.toList=true:=by
 rw[take_all s k hk] at h
 exact decide_eq_true h
def digsP (l:List UInt8):Prop:=0<l.length∧allD l
instance (l:List UInt8):Decidable (allD l):=by unfold allD;infer_instance
instance (l:List UInt8):Decidable (digsP l):=by unfold digsP;infer_instance
def digsB (l:List UInt8):Bool:=decide (digsP l)
def numbP (s:ByteArray):Prop:=s.size=5∧((bt s 0=126∧wordP (s.extract 1 5).data.toList)∨(wordP (s.extract 0 1).data.toList∧digsP (s.extract 1 5).data.toList))
instance (s:ByteArray):Decidable (numbP s):=by unfold numbP;infer_instance
def numbB (s:ByteArray):Bool:=decide (numbP s)
def nameP (s:ByteArray):Prop:=numbP s∨(1≤s.size∧s.size≤7∧wordP s.data.toList)
instance (s:ByteArray):Decidable (nameP s):=by unfold nameP;infer_instance
def nameB (s:ByteArray):Bool:=decide (nameP s)
/-! ### Observations -/
structure Ob where
 name:ByteArray
 site:ByteArray
 t:Int
 ra:Int
 dec:Int
 sg:Int
 mag:Int
 band:Int
abbrev obsC (o:Ob):List Value:=[.string o.name, .string o.site, .int .i64 o.t, .int .i64 o.ra, .int .i64 o.dec, .int .i64 o.sg, .int .i64 o.mag, .int .u8 o.band]
abbrev obsV (o:Ob):Value:=.agg #[.string o.name, .string o.site, .int .i64 o.t, .int .i64 o.ra, .int .i64 o.dec, .int .i64 o.sg, .int .i64 o.mag, .int .u8 o.band]
def zeroO:Ob:=⟨ByteArray.empty,ByteArray.empty,0,0,0,0,0,0⟩
def timeP (t:Int):Prop:=bgv (-10227) 1972 1≤t∧t<bgv 36525 2100 1
def magP (m b:Int):Prop:=(m=9999∧b=32)∨(-500≤m∧m≤3000∧(b=32∨ltP b))
def okO (o:Ob):Prop:=timeP o.t∧nameP o.name∧o.site.size=3∧wordP o.site.data.toList∧0≤o.ra∧o.ra<1296000000000 ∧ -324000000000≤o.dec∧o.dec≤324000000000∧1≤o.sg∧o.sg≤10000000000∧magP o.mag o.band
instance (m b:Int):Decidable (magP m b):=by unfold magP;infer_instance
instance (t:Int):Decidable (timeP t):=by unfold timeP;infer_instance
instance (o:Ob):Decidable (okO o):=by unfold okO;infer_instance
def checkC (o:Ob):Int:=if okO o then 0 else 8
/-! ### Columns -/
/-! ### Lines -/
end Op
namespace Gp
open Go.RowKit Lw

theorem below_iter (w:World) (s:ByteArray) (k:Nat):Below w.heap.size w (w.iter s k):=by
 exact(Below.refl _ _).alloc (Nat.le_refl _) _
end Gp
namespace Ow
open Go.RowKit Lw Go.Proofs.YtdnogmanbdgadaaGreatDoor.Ap Go.Proofs.YtdnogmanbdgadaaGreatDoor.Op

theorem dgB_cases (r:Int):(48≤r∧r≤57∧dgB r=true)∨(r<48∧dgB r=false)∨(48≤r∧57<r∧dgB r=false):=by
 by_cases h:48≤r
 ·by_cases g:r≤57
  ·exact Or.inl ⟨h,g,decide_eq_true ⟨h,g⟩⟩
  ·exact Or.inr (Or.inr ⟨h,by omega,decide_eq_false fun x=>g x.2⟩)
 ·exact Or.inr (Or.inl ⟨by omega,decide_eq_false fun x=>h x.1⟩)
theorem ltB_cases (r:Int):(65≤r∧r≤90∧ltB r=true)∨(97≤r∧r≤122∧ltB r=true)∨(r<65∧ltB r=false)∨(90<r∧r<97∧ltB r=false)∨(122<r∧ltB r=false):=by
 by_cases h:65≤r∧r≤90
 ·exact Or.inl ⟨h.1,h.2,decide_eq_true (Or.inl h)⟩
 ·by_cases g:97≤r∧r≤122
  ·exact Or.inr (Or.inl ⟨g.1,g.2,decide_eq_true (Or.inr g)⟩)
  ·have n:ltB r=false:=decide_eq_false fun x=>by rcases x with x|x <;> omega
   by_cases a:r<65
   ·exact Or.inr (Or.inr (Or.inl ⟨a,n⟩))
   ·by_cases b:r<97
    ·exact Or.inr (Or.inr (Or.inr (Or.inl ⟨by omega,b,n⟩)))
    ·exact Or.inr (Or.inr (Or.inr (Or.inr ⟨by omega,n⟩)))
theorem isDigit_any (r:Int) (w:World):Calls Tryz.prog 169 #[.int .i32 r] w fun e w'=>e = .returned (.bool (dgB r))∧w=w':=by
 rcases dgB_cases r with⟨h,g,e⟩|⟨h,e⟩|⟨h,g,e⟩
 all_goals
  rw[e]
  clear e
  go_enter Tryz.func169,Tryz.ntmps169
  go_wp2
  go_ret
  first
   | exact⟨rfl,rfl⟩
   | exact⟨ret_b (by simp;omega),rfl⟩
theorem isLetter_any (r:Int) (w:World):Calls Tryz.prog 120 #[.int .i32 r] w fun e w'=>e = .returned (.bool (ltB r))∧w=w':=by
 rcases ltB_cases r with⟨h,g,e⟩|⟨h,g,e⟩|⟨h,e⟩|⟨h,g,e⟩|⟨h,e⟩
 all_goals
  rw[e]
  clear e
  go_enter Tryz.func120,Tryz.ntmps120
  go_wp2
  go_ret
  first
   | exact⟨rfl,rfl⟩
   | exact⟨ret_b (by simp;omega),rfl⟩
theorem rdigit_any (r:Int) (w:World):Calls Tryz.prog 76 #[.int .u8 r] w fun e w'=>e = .returned (.bool (dgB r))∧w=w':=by
 rcases dgB_cases r with⟨h,g,e⟩|⟨h,e⟩|⟨h,g,e⟩
 all_goals
  rw[e]
  clear e
  go_enter Tryz.func76,Tryz.ntmps76
  go_wp2
  go_ret
  first
   | exact⟨rfl,rfl⟩
   | exact⟨ret_b (by simp;omega),rfl⟩
theorem rletter_any (r:Int) (w:World):Calls Tryz.prog 44 #[.int .u8 r] w fun e w'=>e = .returned (.bool (ltB r))∧w=w':=by
 rcases ltB_cases r with⟨h,g,e⟩|⟨h,g,e⟩|⟨h,e⟩|⟨h,g,e⟩|⟨h,e⟩
 all_goals
  rw[e]
  clear e
  go_enter Tryz.func44,Tryz.ntmps44
  go_wp2
  go_ret
  first
   | exact⟨rfl,rfl⟩
   | exact⟨ret_b (by simp;omega),rfl⟩
theorem rune_word {s:ByteArray} {k:Nat} (hlt:k<s.size):(Utf8.decode s k=((s[k]'hlt).toNat,1))∨(¬ (dgP (s[k].toNat:Int)∨ltP (s[k].toNat:Int))∧128≤((Utf8.decode s k).1:Int)∧((Utf8.decode s k).1:Int)≤2147483647):=by
 by_cases ha:(s[k]'hlt).toNat<128
 ·exact Or.inl (decode_ascii s k hlt ha)
 ·have:=(decode_high s k hlt (by omega)).1
  have:=decode_le s k
  refine Or.inr ⟨fun h=>?_,by omega,by omega⟩
  unfold dgP ltP at h
  omega
theorem dg_cases (c:Int):(dgP c∧dgB c=true)∨(¬ dgP c∧dgB c=false):=by
 by_cases h:dgP c
 ·exact Or.inl ⟨h,decide_eq_true h⟩
 ·exact Or.inr ⟨h,decide_eq_false h⟩
theorem lt_cases (c:Int):(ltP c∧ltB c=true)∨(¬ ltP c∧ltB c=false):=by
 by_cases h:ltP c
 ·exact Or.inl ⟨h,decide_eq_true h⟩
 ·exact Or.inr ⟨h,decide_eq_false h⟩
theorem isWord_it (s:ByteArray) (w:World) (hs:s.size≤maxLen) :
  Calls Tryz.prog 119 #[.string s] w fun e w'=>e = .returned (.bool (wordB s.data.toList)) ∧ ∃ k,w'=w.iter s k:=by
 unfold maxLen at hs
 go_enter Tryz.func119,Tryz.ntmps119
 go_wp2
 go_loopw [4] (fun n w'=>∃ k:Nat,k≤s.size∧w'=w.iter s k∧Hid (wordP (s.data.toList.take k))) (fun _ w'=>s.size-w'.iterPos w.heap.size)
 case atStart=>exact⟨0,Nat.zero_le _,rfl,Lib.hid (by intro c hc;simp at hc)⟩
 case round =>
  obtain⟨k,hk,rfl,D⟩:=hrel
  by_cases hlt:k<s.size
  ·have hnx:∀ ty,(Instr.next (.pointer (some ⟨w.heap.size,0,none⟩)) true ty).run Tryz.prog (w.iter s k)=_:=fun ty=>run_next_any w s k ty hlt
   have bb:=byte_bd s[k]
   rcases rune_word hlt with hr|⟨d,r1,r2⟩
   ·rw[hr] at hnx
    rcases dg_cases (s[k].toNat:Int) with⟨d1,e1⟩|⟨d1,e1⟩
    ·have D2:=Lib.hid (show wordP (s.data.toList.take (k+1)) by rw[take_snoc s k hlt];exact wordP_snoc D.out (Or.inl d1))
     clear d1
     go_wp2_with (first|(go_at_call 169;refine(isDigit_any _ _).mono ?_;rintro e w' ⟨rfl,rfl⟩)|(go_at_call 120;refine(isLetter_any _ _).mono ?_;rintro e w' ⟨rfl,rfl⟩))
     go_roundw
     case rel=>exact⟨k+1,by omega,rfl,D2⟩
     case measure=>simp;omega
    ·rcases lt_cases (s[k].toNat:Int) with⟨d2,e2⟩|⟨d2,e2⟩
     ·have D2:=Lib.hid (show wordP (s.data.toList.take (k+1)) by rw[take_snoc s k hlt];exact wordP_snoc D.out (Or.inr d2))
      clear d1 d2
      go_wp2_with (first|(go_at_call 169;refine(isDigit_any _ _).mono ?_;rintro e w' ⟨rfl,rfl⟩)|(go_at_call 120;refine(isLetter_any _ _).mono ?_;rintro e w' ⟨rfl,rfl⟩))
      go_roundw
      case rel=>exact⟨k+1,by omega,rfl,D2⟩
      case measure=>simp;omega
     ·have N:=Lib.hid (word_not s k hlt (fun h=>h.elim d1 d2))
      clear d1 d2
      go_wp2_with (first|(go_at_call 169;refine(isDigit_any _ _).mono ?_;rintro e w' ⟨rfl,rfl⟩)|(go_at_call 120;refine(isLetter_any _ _).mono ?_;rintro e w' ⟨rfl,rfl⟩))
      go_ret
      exact⟨ret_b N.out.symm,_,rfl⟩
   ·have N:=Lib.hid (word_not s k hlt d)
    clear d
    generalize (Utf8.decode s k).1=r at *
    have e1:dgB (r:Int)=false:=decide_eq_false fun h=>by unfold dgP at h;omega
    have e2:ltB (r:Int)=false:=decide_eq_false fun h=>by unfold ltP at h;omega
    go_wp2_with (first|(go_at_call 169;refine(isDigit_any _ _).mono ?_;rintro e w' ⟨rfl,rfl⟩)|(go_at_call 120;refine(isLetter_any _ _).mono ?_;rintro e w' ⟨rfl,rfl⟩))
    go_ret
    exact⟨ret_b N.out.symm,_,rfl⟩
  ·have hnx:∀ ty,(Instr.next (.pointer (some ⟨w.heap.size,0,none⟩)) true ty).run Tryz.prog (w.iter s k)=_:=fun ty=>run_next_end w s k ty hlt
   have N:=Lib.hid (word_all s k hlt D.out)
   go_wp2
   go_ret
   exact⟨ret_b N.out.symm,_,rfl⟩
theorem isWord_any (s:ByteArray) (w:World) (hs:s.size≤maxLen) :
  Calls Tryz.prog 119 #[.string s] w fun e w'=>e = .returned (.bool (wordB s.data.toList))∧Below w.heap.size w w' :=
 (isWord_it s w hs).mono fun _ _ ⟨he,k,hk⟩=>⟨he,hk ▸ Gp.below_iter w s k⟩
theorem rword_any (s:ByteArray) (w:World) (hs:s.size≤maxLen) :
  Calls Tryz.prog 43 #[.string s] w fun e w'=>e = .returned (.bool (wordB s.data.toList))∧w=w':=by
 unfold maxLen at hs
 go_enter Tryz.func43,Tryz.ntmps43
 go_wp2
 go_loop [3] (fun i=>∃ k:Nat,k≤s.size∧i = .int .i64 k∧Hid (wordP (s.data.toList.take k))) (fun i=>s.size-(intOf i).toNat)
 case atStart=>exact⟨0,Nat.zero_le _,rfl,Lib.hid (by intro c hc;simp at hc)⟩
 case round =>
  obtain⟨k,hk,rfl,D⟩:=hrel
  by_cases hlt:k<s.size
  ·have bb:=byte_bd s[k]
   rcases dg_cases (s[k].toNat:Int) with⟨d1,e1⟩|⟨d1,e1⟩
   ·have D2:=Lib.hid (show wordP (s.data.toList.take (k+1)) by rw[take_snoc s k hlt];exact wordP_snoc D.out (Or.inl d1))
    clear d1
    go_wp2_with (first|(go_at_call 76;refine(rdigit_any _ _).mono ?_;rintro e w' ⟨rfl,rfl⟩)|(go_at_call 44;refine(rletter_any _ _).mono ?_;rintro e w' ⟨rfl,rfl⟩))
    go_round
    case rel=>exact⟨k+1,by omega,by go_num,D2⟩
    case measure=>simp[intOf];omega
   ·rcases lt_cases (s[k].toNat:Int) with⟨d2,e2⟩|⟨d2,e2⟩
    ·have D2:=Lib.hid (show wordP (s.data.toList.take (k+1)) by rw[take_snoc s k hlt];exact wordP_snoc D.out (Or.inr d2))
     clear d1 d2
     go_wp2_with (first|(go_at_call 76;refine(rdigit_any _ _).mono ?_;rintro e w' ⟨rfl,rfl⟩)|(go_at_call 44;refine(rletter_any _ _).mono ?_;rintro e w' ⟨rfl,rfl⟩))
     go_round
     case rel=>exact⟨k+1,by omega,by go_num,D2⟩
     case measure=>simp[intOf];omega
    ·have N:=Lib.hid (word_not s k hlt (fun h=>h.elim d1 d2))
     clear d1 d2
     go_wp2_with (first|(go_at_call 76;refine(rdigit_any _ _).mono ?_;rintro e w' ⟨rfl,rfl⟩)|(go_at_call 44;refine(rletter_any _ _).mono ?_;rintro e w' ⟨rfl,rfl⟩))
     go_ret
     exact⟨ret_b N.out.symm,rfl⟩
  ·have N:=Lib.hid (word_all s k hlt D.out)
   go_wp2
   go_ret
   exact⟨ret_b N.out.symm,rfl⟩
theorem digs_not (s:ByteArray) (k:Nat) (hk:k<s.size) (h:¬ dgP (s[k].toNat:Int)):digsB s.data.toList=false:=by
 refine decide_eq_false fun g=>h (g.2 _ ?_)
 have:s[k]=s.data.toList[k]'(by simpa using hk):=rfl
 rw[this];exact List.getElem_mem _
theorem digs_all (s:ByteArray) (k:Nat) (hk:¬ k<s.size) (h:allD (s.data.toList.take k)):digsB s.data.toList=decide (0<s.size):=by
 rw[take_all s k hk] at h
 refine decide_eq_decide.2 ⟨fun g=>by simpa using g.1,fun g=>⟨by simpa using g,h⟩⟩
theorem rdigits_any (s:ByteArray) (w:World) (hs:s.size≤maxLen) :
  Calls Tryz.prog 116 #[.string s] w fun e w'=>e = .returned (.bool (digsB s.data.toList))∧w=w':=by
 unfold maxLen at hs
 go_enter Tryz.func116,Tryz.ntmps116
 go_wp2
 go_loop [3] (fun i=>∃ k:Nat,k≤s.size∧i = .int .i64 k∧Hid (allD (s.data.toList.take k))) (fun i=>s.size-(intOf i).toNat)
 case atStart=>exact⟨0,Nat.zero_le _,rfl,Lib.hid (by intro c hc;simp at hc)⟩
 case round =>
  obtain⟨k,hk,rfl,D⟩:=hrel
  by_cases hlt:k<s.size
  ·have bb:=byte_bd s[k]
   rcases dg_cases (s[k].toNat:Int) with⟨d1,e1⟩|⟨d1,e1⟩
   ·have D2:=Lib.hid (show allD (s.data.toList.take (k+1)) by rw[take_snoc s k hlt];exact allD_snoc D.out d1.1 d1.2)
    clear d1
    go_wp2_with (go_at_call 76;refine(rdigit_any _ _).mono ?_;rintro e w' ⟨rfl,rfl⟩)
    go_round
    case rel=>exact⟨k+1,by omega,by go_num,D2⟩
    case measure=>simp[intOf];omega
   ·have N:=Lib.hid (digs_not s k hlt d1)
    clear d1
    go_wp2_with (go_at_call 76;refine(rdigit_any _ _).mono ?_;rintro e w' ⟨rfl,rfl⟩)
    go_ret
    exact⟨ret_b N.out.symm,rfl⟩
  ·have N:=Lib.hid (digs_all s k hlt D.out)
   by_cases z:0<s.size
   ·have z2:(0:Int)<s.size:=by omega
    go_wp2
    go_ret
    exact⟨ret_b (by rw[N.out,decide_eq_true z]),rfl⟩
   ·have z2:s.size=0:=by omega
    have Z:=Lib.hid z2
    clear z2
    have z3:¬ (0:Int)<s.size:=by omega
    go_wp2
    go_ret
    exact⟨ret_b (by rw[N.out];simp[z]),rfl⟩
end Ow
end Go.Proofs.YtdnogmanbdgadaaGreatDoor
