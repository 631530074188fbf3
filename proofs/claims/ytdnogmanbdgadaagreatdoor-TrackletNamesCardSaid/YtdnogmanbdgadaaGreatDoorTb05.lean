/-
  Lemmas and walks, texts joined: MForm, MCut, MForm2, MFld, MFld2.
-/
import Derived.OneCell
import Derived.OwnWalk
import Derived.Deep.AppendLies
import Derived.StillTailTactics
import Derived.Test.YtdnogmanbdgadaaGreatDoorTb04
import Derived.Test.YtdnogmanbdgadaaGreatDoorTb01
set_option linter.unusedSimpArgs false
set_option linter.unusedVariables false
set_option maxRecDepth 100000
set_option maxHeartbeats 40000000
namespace Go.Proofs.YtdnogmanbdgadaaGreatDoor
namespace Ap
open Go.RowKit Lw Go.Proofs.YtdnogmanbdgadaaGreatDoor.Mp

def P19:ByteArray:=⟨#[48,48,48,48,45,48,48,45,48,48,84,48,48,58,48,48,58,48,48]⟩
def P6:ByteArray:=⟨#[48,48,48,48,48,48]⟩
def nm (s:ByteArray) (i j:Nat):Int:=numV (s.extract i j).data.toList
def textP (s:ByteArray):Prop:=20≤s.size∧s.size≠21∧s.size≤27∧bt s (s.size-1)=90∧likeP (s.extract 0 19) P19∧(20<s.size→bt s 19=46∧0≤nm s 20 (s.size-1))
def microV (s:ByteArray):Int:=if s.size=20 then 0 else nm s 20 (s.size-1)*tenI (27-s.size)
def okText (s:ByteArray):Prop:=textP s∧fromOk (nm s 0 4) (nm s 5 7) (nm s 8 10) (nm s 11 13) (nm s 14 16) (nm s 17 19) (microV s)
def textV (s:ByteArray):Int:=timeOf (nm s 0 4) (nm s 5 7) (nm s 8 10) (nm s 11 13) (nm s 14 16) (nm s 17 19) (microV s)
def ParseIs (s:ByteArray) (t e:Int):Prop:=(okText s∧t=textV s∧e=0)∨(¬ okText s∧t=0∧e=12)
theorem ParseIs.uniq {s:ByteArray} {t e t' e':Int} (a:ParseIs s t e) (b:ParseIs s t' e'):t=t'∧e=e':=by
 rcases a with⟨a1,a2,a3⟩|⟨a1,a2,a3⟩ <;> rcases b with⟨b1,b2,b3⟩|⟨b1,b2,b3⟩
 ·exact⟨by rw[a2,b2],by omega⟩
 ·exact absurd a1 b1
 ·exact absurd b1 a1
 ·exact⟨by omega,by omega⟩
/-! ### Head and tail -/
abbrev noPt (c:UInt8):Bool:=decide (¬ ((c.toNat:Nat):Int)=46)
def ptL (l:List UInt8):Nat:=(l.takeWhile noPt).length
theorem ptL_le:∀ l:List UInt8,ptL l≤l.length
 | []=>by simp[ptL]
 | c::l=>by
  have:=ptL_le l
  unfold ptL at *
  rw[List.takeWhile_cons]
  split
  ·simp;omega
  ·simp
theorem ptL_lo:∀ (l:List UInt8) (j:Nat) (h:j<ptL l) (g:j<l.length),¬ ((l[j].toNat:Nat):Int)=46
 | [],_,_,g=>absurd g (by simp)
 | c::l,j,h,g=>by
  unfold ptL at h
  rw[List.takeWhile_cons] at h
  cases hb:noPt c with
  | false=>rw[hb] at h;simp at h
  | true =>
   rw[hb] at h
   cases j with
   | zero=>exact of_decide_eq_true hb
   | succ j =>
    simp only[List.getElem_cons_succ]
    exact ptL_lo l j (by unfold ptL;simp at h;omega) (by simpa using g)
theorem ptL_at:∀ (l:List UInt8) (h:ptL l<l.length),((l[ptL l].toNat:Nat):Int)=46
 | [],h=>absurd h (by simp)
 | c::l,h=>by
  cases hb:noPt c with
  | false =>
   have e:ptL (c::l)=0:=by unfold ptL;rw[List.takeWhile_cons,hb];rfl
   have:((c::l)[ptL (c::l)])=c:=by simp only[e];rfl
   rw[this]
   have:=of_decide_eq_false hb
   omega
  | true =>
   have e:ptL (c::l)=ptL l+1:=by unfold ptL;rw[List.takeWhile_cons,hb];simp
   have:=ptL_at l (by rw[e] at h;simpa using h)
   have e2:((c::l)[ptL (c::l)])=l[ptL l]'(by rw[e] at h;simpa using h):=by simp only[e];rfl
   rw[e2];exact this
theorem ptL_uniq {l:List UInt8} {q:Nat} (h:q≤l.length) (h1:∀ j (g:j<l.length),j<q→¬ ((l[j].toNat:Nat):Int)=46) (h2:∀ g:q<l.length,((l[q].toNat:Nat):Int)=46):ptL l=q:=by
 have a:=ptL_le l
 rcases Nat.lt_trichotomy (ptL l) q with c|c|c
 ·exact absurd (ptL_at l (by omega)) (h1 _ (by omega) c)
 ·exact c
 ·exact absurd (h2 (by omega)) (ptL_lo l q c (by omega))
end Ap
namespace Ap
open Go.RowKit Lw

theorem point_iff (c:UInt8):(c==46)=true↔((c.toNat:Nat):Int)=46:=by
 have e:c=46↔c.toNat=(46:UInt8).toNat:=UInt8.toNat_inj.symm
 have h46:(46:UInt8).toNat=46:=rfl
 rw[beq_iff_eq,e,h46]
 omega
theorem idx_pt:∀ l:List UInt8,Lib.indexByte l 46=if ptL l<l.length then((ptL l:Nat):Int) else -1
 | []=>rfl
 | b::l=>by
  have ih:=idx_pt l
  unfold ptL at ih ⊢
  unfold Lib.indexByte
  by_cases h:(b==46)=true
  ·have hb:noPt b=false:=decide_eq_false (not_not_intro ((point_iff b).1 h))
   rw[if_pos h,List.takeWhile_cons,hb]
   simp
  ·have hb:noPt b=true:=decide_eq_true fun g=>h ((point_iff b).2 g)
   rw[if_neg h,List.takeWhile_cons,if_pos hb,ih]
   simp only[List.length_cons,beq_iff_eq]
   by_cases g:(l.takeWhile noPt).length<l.length
   ·rw[if_pos g,if_neg (by omega),if_pos (by omega)]
    omega
   ·rw[if_neg g,if_pos rfl,if_neg (by omega)]
def ptS (s:ByteArray):Nat:=ptL s.data.toList
def hdP (s:ByteArray):ByteArray:=s.extract 0 (ptS s)
def tlP (s:ByteArray):ByteArray:=if ptS s<s.size then s.extract (ptS s+1) s.size else⟨#[]⟩
theorem ptS_le (s:ByteArray):ptS s≤s.size:=by have:=ptL_le s.data.toList;unfold ptS;simpa using this
theorem extract_all (s:ByteArray):s.extract 0 s.size=s:=by simp
theorem icut_any (s:ByteArray) (w:World) (hs:s.size≤maxLen) :
  Calls Tryz.prog 132 #[.string s, .string ⟨#[46]⟩] w fun e w'=>e = .returned (.tuple #[.string (hdP s), .string (tlP s), .bool (decide (ptS s<s.size))])∧Below w.heap.size w w':=by
 have IX:=Tryz.stringslite_Index_one s 46 w
 have ix:=idx_pt s.data.toList
 have hl:s.data.toList.length=s.size:=by simp
 rw[hl] at ix
 replace ix:Lib.indexByte s.data.toList 46=if ptS s<s.size then((ptS s:Nat):Int) else -1:=ix
 have le:=ptS_le s
 have M:maxLen=9223372036854775807:=rfl
 by_cases h:ptS s<s.size
 ·have e:Lib.indexByte s.data.toList 46=((ptS s:Nat):Int):=by rw[ix,if_pos h]
  rw[e] at IX
  have T:=Lib.hid (show tlP s=s.extract (ptS s+1) s.size from if_pos h)
  have H:=Lib.hid (show hdP s=s.extract 0 (ptS s) from rfl)
  rw[decide_eq_true h]
  clear ix e
  generalize ptS s=q at *
  have i0:0≤(q:Int):=by omega
  go_enter Tryz.func132,Tryz.ntmps132
  go_wp2_with fail
  refine IX.mono ?_
  rintro e w1 ⟨rfl,rfl⟩
  go_wp2_with fail
  go_quiet (fail)
  go_wp2_with fail
  go_ret3

  exact⟨by rw[T.out,H.out];rfl,drewN_below2 (Below.refl _ _) _⟩
 ·have e:Lib.indexByte s.data.toList 46 = -1:=by rw[ix,if_neg h]
  rw[e] at IX
  have T:=Lib.hid (show tlP s=⟨#[]⟩ from if_neg h)
  have H:=Lib.hid (show hdP s=s by unfold hdP;rw[show ptS s=s.size by omega];exact extract_all s)
  rw[decide_eq_false h]
  clear ix e
  go_enter Tryz.func132,Tryz.ntmps132
  go_wp2_with fail
  refine IX.mono ?_
  rintro e w1 ⟨rfl,rfl⟩
  go_wp2_with fail
  go_ret3
  exact⟨by rw[T.out,H.out];rfl,Below.refl _ _⟩
theorem cut_any (s:ByteArray) (w:World) (hs:s.size≤maxLen) :
  Calls Tryz.prog 83 #[.string s, .string ⟨#[46]⟩] w fun e w'=>e = .returned (.tuple #[.string (hdP s), .string (tlP s), .bool (decide (ptS s<s.size))])∧Below w.heap.size w w':=by
 go_enter Tryz.func83,Tryz.ntmps83
 go_wp2_with fail
 refine(icut_any s w hs).mono ?_
 rintro e w1 ⟨rfl,hb⟩
 go_wp2_with fail
 go_ret3
 exact⟨rfl,hb⟩
def zP (s:ByteArray):Prop:=1≤s.size∧bt s (s.size-1)=90
instance (s:ByteArray):Decidable (zP s):=by unfold zP;infer_instance
def noZ (s:ByteArray):ByteArray:=if zP s then s.extract 0 (s.size-1) else s
theorem suf_z (s:ByteArray):Lib.hasSuffix s.data.toList [90]=decide (zP s):=by
 unfold Lib.hasSuffix
 rw[Bool.eq_iff_iff,decide_eq_true_iff,List.isSuffixOf_iff_suffix]
 constructor
 ·rintro ⟨r,h⟩
  have hl:=congrArg List.length h
  simp at hl
  refine⟨by omega,?_⟩
  rw[bt_of s _ (by omega)]
  have e:s[s.size-1]'(by omega)=s.data.toList[s.size-1]'(by simp;omega):=rfl
  rw[e]
  have:s.data.toList[s.size-1]'(by simp;omega)=(r ++ [90])[s.size-1]'(by simp;omega):=by simp only[h]
  rw[this,List.getElem_append_right (by omega)]
  simp
 ·rintro ⟨h1,h2⟩
  rw[bt_of s _ (by omega)] at h2
  refine⟨s.data.toList.take (s.size-1),?_⟩
  have e:=take_snoc s (s.size-1) (by omega)
  have hz:s[s.size-1]=90:=by
   apply UInt8.toNat_inj.1
   have:(90:UInt8).toNat=90:=rfl
   omega
  rw[hz,show s.size-1+1=s.size by omega] at e
  rw[← e]
  exact List.take_of_length_le (by simp)
theorem suf_any (s:ByteArray) (w:World) (hs:s.size≤maxLen) :
  Calls Tryz.prog 82 #[.string s, .string ⟨#[90]⟩] w fun e w'=>e = .returned (.tuple #[.string (noZ s), .bool (decide (zP s))])∧w=w':=by
 have M:maxLen=9223372036854775807:=rfl
 have IX:=Tryz.stringslite_HasSuffix s ⟨#[90]⟩ w (by omega)
 have e:Lib.hasSuffix s.data.toList (⟨#[90]⟩:ByteArray).data.toList=decide (zP s):=suf_z s
 rw[e] at IX
 clear e
 by_cases h:zP s
 ·have T:=Lib.hid (show noZ s=s.extract 0 (s.size-1) from if_pos h)
  have h1:1≤s.size:=h.1
  rw[decide_eq_true h] at IX ⊢
  clear h
  go_enter Tryz.func82,Tryz.ntmps82
  go_wp2_with (first|(go_at_call 188;refine IX.mono ?_;rintro e w1 ⟨rfl,rfl⟩)|(go_at_call 131;go_in))

  go_ret2
  exact⟨by rw[T.out];rfl,rfl⟩
 ·have T:=Lib.hid (show noZ s=s from if_neg h)
  rw[decide_eq_false h] at IX ⊢
  clear h
  go_enter Tryz.func82,Tryz.ntmps82
  go_wp2_with (first|(go_at_call 188;refine IX.mono ?_;rintro e w1 ⟨rfl,rfl⟩)|(go_at_call 131;go_in))
  go_ret2
  exact⟨by rw[T.out];rfl,rfl⟩
end Ap
namespace Ap
open Go.RowKit Lw Go.Proofs.YtdnogmanbdgadaaGreatDoor.Mp

theorem bt_ext (s:ByteArray) (i j k:Nat) (hj:j≤s.size) (hk:i+k<j):bt (s.extract i j) k=bt s (i+k):=by
 have h1:k<(s.extract i j).size:=by simp;omega
 rw[bt_of _ k h1,bt_of s (i+k) (by omega)]
 simp[ByteArray.getElem_extract]
theorem size_ext (s:ByteArray) (i j:Nat) (hj:j≤s.size):(s.extract i j).size=j-i:=by simp;omega
theorem ext_ext (s:ByteArray) (j k:Nat) (h:k≤j) (hj:j≤s.size):(s.extract 0 j).extract 0 k=s.extract 0 k:=by
 rw[ByteArray.extract_extract]
 congr 1 <;> omega
theorem ext_ext2 (s:ByteArray) (i j:Nat) (hj:j≤s.size):(s.extract 0 j).extract i j=s.extract i j:=by
 rw[ByteArray.extract_extract]
 congr 1 <;> omega
theorem pt_at (s:ByteArray) (h:ptS s<s.size):bt s (ptS s)=46:=by
 rw[bt_of s _ h]
 exact ptL_at s.data.toList (by have g:=h;unfold ptS at g;simpa using g)
theorem pt_uniq {s:ByteArray} {q:Nat} (h:q≤s.size) (h1:∀ j,j<q→¬ bt s j=46) (h2:q<s.size→bt s q=46):ptS s=q:=by
 refine ptL_uniq (by simpa using h) (fun j g hj=>?_) (fun g=>?_)
 ·have hs:j<s.size:=by simpa using g
  have:=h1 j hj
  rw[bt_of s j hs] at this
  exact this
 ·have hs:q<s.size:=by simpa using g
  have:=h2 hs
  rw[bt_of s q hs] at this
  exact this
theorem allD_bt (s:ByteArray):allD s.data.toList ↔ ∀ k,k<s.size→48≤bt s k∧bt s k≤57:=by
 constructor
 ·intro h k hk
  rw[bt_of s k hk]
  exact h _ (by
   have:s[k]=s.data.toList[k]'(by simpa using hk):=rfl
   rw[this];exact List.getElem_mem _)
 ·intro h c hc
  obtain⟨k,hk,rfl⟩:=List.mem_iff_getElem.1 hc
  have hs:k<s.size:=by simpa using hk
  have:=h k hs
  rw[bt_of s k hs] at this
  exact this
theorem numV_nn (l:List UInt8):0≤numV l↔allD l:=by
 unfold numV
 by_cases h:allD l
 ·rw[if_pos h]
  have e:l.take l.length=l:=List.take_length
  have:=numL_bd l l.length (Nat.le_refl _) (by rw[e];exact h)
  rw[e] at this
  exact⟨fun _=>h,fun _=>this.1⟩
 ·rw[if_neg h]
  exact⟨fun g=>absurd g (by omega),fun g=>absurd g h⟩
theorem numV_yes {l:List UInt8} (h:allD l):numV l=numL l:=if_pos h
/-! ### The digits behind the point -/
def pad6 (t:ByteArray):ByteArray:=t++P6.extract t.size P6.size
theorem zeros6 (i:Nat) (h:i≤6):(P6.extract i P6.size).data.toList=List.replicate (6-i) 48:=by
 have:i=0∨i=1∨i=2∨i=3∨i=4∨i=5∨i=6:=by omega
 rcases this with rfl|rfl|rfl|rfl|rfl|rfl|rfl <;> decide
theorem pad6_list (t:ByteArray) (h:t.size≤6):(pad6 t).data.toList=t.data.toList++List.replicate (6-t.size) 48:=by
 rw[← zeros6 t.size h]
 simp[pad6]
theorem pad6_size (t:ByteArray) (h:t.size≤6):(pad6 t).size=6:=by
 have:=congrArg List.length (pad6_list t h)
 simp at this
 omega
theorem numL_zeros (l:List UInt8):∀ k,numL (l++List.replicate k 48)=numL l*tenI k
 | 0=>by simp[tenI]
 | k+1=>by
  have ih:=numL_zeros l k
  have e:List.replicate (k+1) (48:UInt8)=List.replicate k 48 ++ [48]:=List.replicate_succ'
  have h48:((48:UInt8).toNat:Int)=48:=rfl
  rw[e,← List.append_assoc,numL_snoc,ih,tenI_s,h48,← Int.mul_assoc (numL l) (tenI k) 10]
  generalize numL l*tenI k=Z
  omega
theorem P6_at:∀ k,k<6→bt P6 k=48:=by decide
theorem like6 (t:ByteArray) (h:t.size≤6):likeP (pad6 t) P6↔allD t.data.toList:=by
 have hs:=pad6_size t h
 have ha:=allD_bt (pad6 t)
 rw[pad6_list t h,hs] at ha
 have hb:allD (t.data.toList++List.replicate (6-t.size) 48)↔allD t.data.toList:=by
  constructor
  ·exact fun g c hc=>g c (List.mem_append_left _ hc)
  ·intro g c hc
   rcases List.mem_append.1 hc with hc|hc
   ·exact g c hc
   ·have:=(List.mem_replicate.1 hc).2
    subst this
    exact⟨by decide,by decide⟩
 rw[← hb,ha]
 constructor
 ·intro ⟨_,g⟩ k hk
  exact(g k (by omega)).1 (P6_at k hk)
 ·intro g
  refine⟨hs,fun k hk=>⟨fun _=>g k (by omega),fun e=>absurd (P6_at k (by omega)) e⟩⟩
theorem grp6 (t:ByteArray) (h:t.size≤6):grpL (pad6 t) P6 (pad6 t).size = [numL t.data.toList*tenI (6-t.size)]:=by
 have hs:=pad6_size t h
 have:=grp_run (pad6 t) P6 0 rfl 6 (by omega) (by omega) (fun j _ hj=>P6_at j (by omega))
 rw[hs,show (6:Nat)=0+6 by omega,this]
 have e:(pad6 t).extract 0 (0+6)=pad6 t:=by rw[show 0+6=(pad6 t).size by omega];exact extract_all _
 rw[e,pad6_list t h,numL_zeros]
 rfl
/-! ### The numbers ahead of the point -/
theorem P19_no:∀ j,j<19→¬ bt P19 j=46:=by decide
theorem like_no46 {h p:ByteArray} {n:Nat} (hl:likeP h p) (hn:h.size=n) (hp:∀ j,j<n→¬ bt p j=46):∀ j,j<n→¬ bt h j=46:=fun j hj e=>by
 obtain⟨a,b⟩:=hl.2 j (by omega)
 by_cases g:bt p j=48
 ·have:=a g;omega
 ·have:=b g
  exact hp j hj (by omega)
def progT (s:ByteArray):Prop:=zP s∧likeP (hdP (noZ s)) P19∧(ptS (noZ s)<(noZ s).size→1≤(tlP (noZ s)).size∧(tlP (noZ s)).size≤6)∧allD (tlP (noZ s)).data.toList
theorem P19_size:P19.size=19:=rfl
theorem prog_text {s:ByteArray} (g:progT s):textP s∧hdP (noZ s)=s.extract 0 19∧microV s=numL (tlP (noZ s)).data.toList*tenI (6-(tlP (noZ s)).size):=by
 obtain⟨z,lk,sz,ad⟩:=g
 have hr:noZ s=s.extract 0 (s.size-1):=if_pos z
 obtain⟨z1,z2⟩:=z
 have rs:(noZ s).size=s.size-1:=by rw[hr,size_ext s _ _ (by omega)];omega
 have hq:ptS (noZ s)=19:=by
  have:=lk.1
  rw[P19_size] at this
  have le:=ptS_le (noZ s)
  unfold hdP at this
  rw[size_ext _ _ _ le] at this
  omega
 have hle:=ptS_le (noZ s)
 have hh:hdP (noZ s)=s.extract 0 19:=by
  unfold hdP
  rw[hq,hr,ext_ext s _ _ (by omega) (by omega)]
 rw[hh] at lk
 by_cases hp:ptS (noZ s)<(noZ s).size
 ·have ht:tlP (noZ s)=s.extract 20 (s.size-1):=by
   unfold tlP
   rw[if_pos hp,hq,rs,hr,ext_ext2 s _ _ (by omega)]
  have hs:=sz hp
  rw[ht,size_ext s _ _ (by omega)] at hs
  have h46:=pt_at (noZ s) hp
  rw[hq,hr,bt_ext s 0 (s.size-1) 19 (by omega) (by omega)] at h46
  have ad':=ad
  rw[ht] at ad'
  refine⟨⟨by omega,by omega,by omega,z2,lk,fun _=>⟨by simpa using h46,(numV_nn _).2 ad'⟩⟩,hh,?_⟩
  unfold microV nm
  rw[if_neg (by omega),numV_yes ad',ht,size_ext s _ _ (by omega),show 6-(s.size-1-20)=27-s.size by omega]
 ·have ht:tlP (noZ s)=⟨#[]⟩:=if_neg hp
  refine⟨⟨by omega,by omega,by omega,z2,lk,fun h=>absurd h (by omega)⟩,hh,?_⟩
  unfold microV
  rw[if_pos (by omega),ht]
  rfl
theorem text_prog {s:ByteArray} (g:textP s):progT s:=by
 obtain⟨h20,h21,h27,hz,lk,hm⟩:=g
 have z:zP s:=⟨by omega,hz⟩
 have hr:noZ s=s.extract 0 (s.size-1):=if_pos z
 have rs:(noZ s).size=s.size-1:=by rw[hr,size_ext s _ _ (by omega)];omega
 have no:=like_no46 lk (by rw[size_ext s _ _ (by omega)]) P19_no
 have hq:ptS (noZ s)=19:=by
  refine pt_uniq (by omega) (fun j hj=>?_) (fun h=>?_)
  ·have:=no j (by omega)
   rw[bt_ext s 0 19 j (by omega) (by omega)] at this
   rw[hr,bt_ext s 0 _ j (by omega) (by omega)]
   exact this
  ·rw[hr,bt_ext s 0 _ 19 (by omega) (by omega)]
   have:=(hm (by omega)).1
   simpa using this
 have hh:hdP (noZ s)=s.extract 0 19:=by
  unfold hdP
  rw[hq,hr,ext_ext s _ _ (by omega) (by omega)]
 refine⟨z,by rw[hh];exact lk,fun hp=>?_,?_⟩
 ·have ht:tlP (noZ s)=s.extract 20 (s.size-1):=by
   unfold tlP
   rw[if_pos hp,hq,rs,hr,ext_ext2 s _ _ (by omega)]
  rw[ht,size_ext s _ _ (by omega)]
  omega
 ·by_cases hp:ptS (noZ s)<(noZ s).size
  ·have ht:tlP (noZ s)=s.extract 20 (s.size-1):=by
    unfold tlP
    rw[if_pos hp,hq,rs,hr,ext_ext2 s _ _ (by omega)]
   rw[ht]
   exact(numV_nn _).1 (hm (by omega)).2
  ·have ht:tlP (noZ s)=⟨#[]⟩:=if_neg hp
   rw[ht]
   exact fun c hc=>absurd hc (by simp)
end Ap
namespace Ap
open Go.RowKit Lw

structure FS (s p:ByteArray) (w0:World) (B:Nat) (L:List Int) (b:Bool) (wr:World):Prop where
 cs:wr.heap[B]? = some (.cells #[.string s] 9 (0,0))
 cp:wr.heap[B+1]? = some (.cells #[.string p] 9 (0,0))
 co:∃ v,wr.heap[B+2]? = some (.cells #[v] 29 (0,0))∧wr.ownsRow (B+4) 3 1 v L.length (L.map (Value.int .i64))
 ci:wr.heap[B+3]? = some (.cells #[.bool b] 4 (0,0))
 below:Below B w0 wr
theorem owns_set {w:World} {base:Nat} {e:TypeId} {g n cap:Nat} {xs:List Value} {u:Value} (h:w.ownsRow base e 1 (.slice (some ⟨g,0,none⟩) n cap) n (xs ++ [u])) (u':Value) :
  (w.setCell ⟨g,xs.length,none⟩ u').ownsRow base e 1 (.slice (some ⟨g,0,none⟩) n cap) n (xs ++ [u']):=by
 obtain⟨h1,h2⟩:=h
 refine⟨by simpa using h1,?_⟩
 rcases h2 with⟨h2,_⟩|⟨g',cap',cur,hv,hg,hh,hc1,hc2,hsz,ht⟩
 ·cases h2
 ·cases hv
  refine Or.inr ⟨g,cap,cur.set! xs.length u',rfl,hg,?_,hc1,hc2,by simpa using hsz,?_⟩
  ·have hlt:=lt_of_block hh
   have h':w.heap[g] = .cells cur e (0,0):=by simpa [Array.getElem?_eq_getElem hlt] using hh
   show (w.heap.modify g _)[g]? = _
   rw[Array.getElem?_eq_getElem (by simpa using hlt),Array.getElem_modify_self,h']
   rfl
  ·have hn:n=xs.length+1:=by simpa using h1.symm
   subst hn
   simp only[Nat.mul_one] at ht ⊢
   rw[Array.set!_eq_setIfInBounds,Array.toList_setIfInBounds]
   have hl:xs.length<cur.toList.length:=by simp at hsz ⊢;omega
   rw[List.take_set,ht]
   simp
theorem FS.flag {s p:ByteArray} {w0:World} {B:Nat} {L:List Int} {b:Bool} {wr:World} (h:FS s p w0 B L b wr) (b':Bool):FS s p w0 B L b' (wr.setCell ⟨B+3,0,none⟩ (.bool b')):=by
 obtain⟨h1,h2,⟨v,h3,h4⟩,h5,h6⟩:=h
 exact⟨by rw[Below.heap_setCell _ _ _ _ (by simp <;> omega)];exact h1,by rw[Below.heap_setCell _ _ _ _ (by simp <;> omega)];exact h2,
  ⟨v,by rw[Below.heap_setCell _ _ _ _ (by simp)];exact h3,ownsRow_setCell_below h4 (by simp) _⟩,one_setCell h5,h6.setCell (by simp <;> omega) _⟩
theorem FS.drewN {s p:ByteArray} {w0:World} {B:Nat} {L:List Int} {b:Bool} {wr:World} (h:FS s p w0 B L b wr) (n:Nat):FS s p w0 B L b (wr.drewN n):=by
 obtain⟨h1,h2,⟨v,h3,h4⟩,h5,h6⟩:=h
 exact⟨h1,h2,⟨v,h3,h4⟩,h5,⟨h6.os,h6.tape,h6.output,h6.size,h6.block⟩⟩
theorem FS.drew {s p:ByteArray} {w0:World} {B:Nat} {L:List Int} {b:Bool} {wr:World} (h:FS s p w0 B L b wr):FS s p w0 B L b wr.drew:=by
 obtain⟨h1,h2,⟨v,h3,h4⟩,h5,h6⟩:=h
 exact⟨h1,h2,⟨v,h3,h4⟩,h5,h6.drew⟩
theorem FS.app {s p:ByteArray} {w0:World} {B:Nat} {L:List Int} {b:Bool} {wr w1:World} {v v':Value} {o:Obj} {z:Int} (h:FS s p w0 B L b wr) (hv:wr.heap[B+2]? = some (.cells #[v] 29 (0,0))) (hown:wr.ownsRow (B+4) 3 1 v L.length (L.map (Value.int .i64)))
  (h1:w1.ownsRow (B+4) 3 1 v' (L.length+1) (L.map (Value.int .i64) ++ [.int .i64 z])) (hg:(wr.alloc o).grownBy w1 v.ownBlock):FS s p w0 B (L ++ [z]) b (w1.setCell ⟨B+2,0,none⟩ v'):=by
 obtain⟨a1,a2,_,a5,a6⟩:=h
 have lt3:=lt_of_block a5
 have hne:∀ k,k<B+4→some k≠v.ownBlock:=fun k hk e=>by have:=(hown.lt k e.symm).1;omega
 have hk:∀ k,k<B+4→w1.heap[k]? = wr.heap[k]?:=fun k hk=>by
  rw[hg.block k (by simp <;> omega) (hne k hk)]
  exact heap_alloc_old wr o (by omega)
 refine⟨by rw[Below.heap_setCell _ _ _ _ (by simp <;> omega),hk _ (by omega)];exact a1,by rw[Below.heap_setCell _ _ _ _ (by simp),hk _ (by omega)];exact a2,
  ⟨v',one_setCell (by rw[hk _ (by omega)];exact hv),?_⟩,by rw[Below.heap_setCell _ _ _ _ (by simp),hk _ (by omega)];exact a5,?_⟩
 ·have:=ownsRow_setCell_below h1 (a:=⟨B+2,0,none⟩) (by simp) v'
  simpa using this
 ·exact((a6.alloc (by omega) o).grown hg (by simp <;> omega) (fun k e=>by have:=(hown.lt k e).1;omega)).setCell (by simp <;> omega) _
theorem FS.app_cells {s p:ByteArray} {w0:World} {B:Nat} {L:List Int} {b:Bool} {wr w1:World} {v v':Value} {o:Obj} (h:FS s p w0 B L b wr) (hv:wr.heap[B+2]? = some (.cells #[v] 29 (0,0))) (hown:wr.ownsRow (B+4) 3 1 v L.length (L.map (Value.int .i64)))
  (hg:(wr.alloc o).grownBy w1 v.ownBlock):w1.cell? ⟨B+2,0,none⟩=some v∧w1.frozen? ⟨B+2,0,none⟩=false∧(w1.setCell ⟨B+2,0,none⟩ v').cell? ⟨B+3,0,none⟩=some (.bool b)∧(w1.setCell ⟨B+2,0,none⟩ v').frozen? ⟨B+3,0,none⟩=false ∧
   ((w1.setCell ⟨B+2,0,none⟩ v').setCell ⟨B+3,0,none⟩ (.bool true)).heap[B+2]? = some (.cells #[v'] 29 (0,0)):=by
 obtain⟨a1,a2,_,a5,a6⟩:=h
 have lt3:=lt_of_block a5
 have hne:∀ k,k<B+4→some k≠v.ownBlock:=fun k hk e=>by have:=(hown.lt k e.symm).1;omega
 have hk:∀ k,k<B+4→w1.heap[k]? = wr.heap[k]?:=fun k hk=>by
  rw[hg.block k (by simp;omega) (hne k hk)]
  exact heap_alloc_old wr o (by omega)
 have h2:w1.heap[B+2]? = some (.cells #[v] 29 (0,0)):=by rw[hk _ (by omega)];exact hv
 have h3:(w1.setCell ⟨B+2,0,none⟩ v').heap[B+3]? = some (.cells #[.bool b] 4 (0,0)):=by
  rw[Below.heap_setCell _ _ _ _ (by simp),hk _ (by omega)];exact a5
 exact⟨cell_of_one h2,free_of_one h2,cell_of_one h3,free_of_one h3,by rw[Below.heap_setCell _ _ _ _ (by simp)];exact one_setCell h2⟩
theorem FS.put {s p:ByteArray} {w0:World} {B:Nat} {X:List Int} {u:Int} {b:Bool} {wr:World} {g n cap:Nat} (h:FS s p w0 B (X ++ [u]) b wr) (hv:wr.heap[B+2]? = some (.cells #[.slice (some ⟨g,0,none⟩) n cap] 29 (0,0))) (u':Int) :
  n=X.length+1∧wr.cell? ⟨g,X.length,none⟩=some (.int .i64 u)∧wr.frozen? ⟨g,X.length,none⟩=false∧B+4≤g∧FS s p w0 B (X ++ [u']) b (wr.setCell ⟨g,X.length,none⟩ (.int .i64 u')):=by
 obtain⟨a1,a2,⟨v,a3,a4⟩,a5,a6⟩:=h
 rw[hv] at a3
 have a3':v = .slice (some ⟨g,0,none⟩) n cap:=by simpa using a3.symm
 subst a3'
 have hn:n=X.length+1:=by
  rcases a4.2 with⟨e,_⟩|⟨g',cap',cur,e,_⟩
  ·cases e
  ·cases e;simp
 have ml:(X ++ [u]).map (Value.int .i64)=X.map (Value.int .i64) ++ [.int .i64 u]:=by simp
 have ll:(X ++ [u]).length=n:=by simp;omega
 rw[ml,ll] at a4
 have ce:=a4.cells (g:=g) rfl X.length (.int .i64 u) (by simp)
 have ae:(⟨g,0,none⟩:Addr).add X.length=⟨g,X.length,none⟩:=by
  unfold Addr.add
  split
  ·simp[*]
  ·simp
 rw[ae] at ce
 have hgb:=(a4.lt g rfl).1
 have hfz:wr.frozen? ⟨g,X.length,none⟩=false:=by
  rcases a4.2 with⟨e,_⟩|⟨g',cap',cur,e,_,hh,_,_,hs,_⟩
  ·cases e
  ·cases e
   simp[World.frozen?,hh]
 have st:=owns_set a4 (.int .i64 u')
 rw[List.length_map] at st
 refine⟨hn,ce,hfz,hgb,by rw[Below.heap_setCell _ _ _ _ (by simp;omega)];exact a1,by rw[Below.heap_setCell _ _ _ _ (by simp;omega)];exact a2,
  ⟨.slice (some ⟨g,0,none⟩) n cap,by rw[Below.heap_setCell _ _ _ _ (by simp;omega)];exact hv,?_⟩,by rw[Below.heap_setCell _ _ _ _ (by simp;omega)];exact a5,a6.setCell (by simp;omega) _⟩
 have e1:(X ++ [u']).map (Value.int .i64)=X.map (Value.int .i64) ++ [.int .i64 u']:=by simp
 have e2:(X ++ [u']).length=n:=by simp;omega
 rw[e1,e2]
 exact st
theorem read_sep (s p:ByteArray) (w0 w:World) (B:Nat) (L:List Int) (b:Bool) (k:Nat) (hs:k<s.size) (hp:k<p.size) (hS:FS s p w0 B L b w) (hb:¬ bt p k=48) :
  Calls Tryz.prog 133 #[.int .i64 k, .pointer (some ⟨B,0,none⟩), .pointer (some ⟨B+1,0,none⟩), .pointer (some ⟨B+3,0,none⟩), .pointer (some ⟨B+2,0,none⟩)] w fun e w'=>e = .returned (.bool (decide (okAt s p k)))∧FS s p w0 B L false w':=by
 have c0:=cell_of_one hS.cs
 have c1:=cell_of_one hS.cp
 have c3:=cell_of_one hS.ci
 have g3:=free_of_one hS.ci
 have S1:=Lib.hid (hS.flag false)
 have O:=Lib.hid (show okAt s p k↔(s[k].toNat:Int)=(p[k].toNat:Int) by unfold okAt;rw[bt_of s k hs,bt_of p k hp];rw[bt_of p k hp] at hb;exact⟨fun g=>g.2 hb,fun g=>⟨fun h=>absurd h hb,fun _=>g⟩⟩)
 rw[bt_of p k hp] at hb
 have i0:(k:Int)<(s.size:Int):=by omega
 have i1:(k:Int)<(p.size:Int):=by omega
 have bb:=byte_bd s[k]
 clear hS
 have D:=Lib.hid (show ∀ v:Bool,v=((s[k].toNat:Int)==(p[k].toNat:Int))→v=decide (okAt s p k) from fun v h=>by rw[h,Bool.eq_iff_iff,beq_iff_eq,decide_eq_true_iff];exact O.out.symm)
 go_enter Tryz.func133,Tryz.ntmps133
 go_wp2
 all_goals
  go_quiet (fail)
  go_wp2
  go_ret
  exact⟨ret_b (D.out _ rfl),S1.out.drewN _⟩
theorem info_int:(Tryz.prog.info? 3).map (fun i=>(i.zero,i.size,i.bytes))=some (some (.int .i64 0),1,8):=by kernel_rfl
theorem read_on (s p:ByteArray) (w0 w:World) (B:Nat) (X:List Int) (v:Int) (k:Nat) (hs:k<s.size) (hp:k<p.size) (hS:FS s p w0 B (X ++ [v]) true w) (hb:bt p k=48) (v0:0≤v) (v1:v<1000000000) (hX:X.length≤1000) :
  Calls Tryz.prog 133 #[.int .i64 k, .pointer (some ⟨B,0,none⟩), .pointer (some ⟨B+1,0,none⟩), .pointer (some ⟨B+3,0,none⟩), .pointer (some ⟨B+2,0,none⟩)] w fun e w'=>e = .returned (.bool (decide (okAt s p k)))∧FS s p w0 B (X ++ [10*v+(bt s k-48)]) true w':=by
 have c0:=cell_of_one hS.cs
 have c1:=cell_of_one hS.cp
 have c3:=cell_of_one hS.ci
 obtain⟨vo,hv,hown⟩:=hS.co
 obtain⟨g,cap,rfl,hg1,hg2⟩:=hown.form (by simp)
 have c2:=cell_of_one hv
 obtain⟨hn,ce,hf,hgb,hput⟩:=hS.drew.put hv (10*v+(s[k].toNat:Int)-48)
 replace ce:w.cell? ⟨g,X.length,none⟩=some (.int .i64 v):=ce
 replace hf:w.frozen? ⟨g,X.length,none⟩=false:=hf
 have O:=Lib.hid (show okAt s p k↔48≤(s[k].toNat:Int)∧(s[k].toNat:Int)≤57 by unfold okAt;rw[bt_of s k hs];exact⟨fun g=>g.1 hb,fun g=>⟨fun _=>g,fun h=>absurd hb h⟩⟩)
 rw[bt_of p k hp] at hb
 have ev:10*v+(bt s k-48)=10*v+(s[k].toNat:Int)-48:=by rw[bt_of s k hs];omega
 rw[ev]
 rw[hn] at c2
 have Hput:=Lib.hid hput
 have bb:=byte_bd s[k]
 have i0:(k:Int)<(s.size:Int):=by omega
 have i1:(k:Int)<(p.size:Int):=by omega
 clear hS hv hown hn hput hg1 hgb ev
 have D:=Lib.hid (show ∀ b:Bool,(b=true↔48≤(s[k].toNat:Int)∧(s[k].toNat:Int)≤57)→b=decide (okAt s p k) from fun b h=>by rw[Bool.eq_iff_iff,h,decide_eq_true_iff];exact O.out.symm)
 have i2:(X.length:Int)<(X.length:Int)+1:=by omega
 have i3:0≤(X.length:Int):=by omega
 by_cases d1:48≤(s[k].toNat:Int)
 ·have E:=Lib.hid (D.out (decide ((s[k].toNat:Int)≤57)) (by rw[decide_eq_true_iff];exact⟨fun h=>⟨d1,h⟩,fun h=>h.2⟩))
  clear D O
  go_enter Tryz.func133,Tryz.ntmps133
  go_wp2
  go_still_tail 13,(by kernel_rfl)
  repeat still_step
  try refine wpStill_nil ?_
  change wpList _ _ _ _ _ w.drew
  go_wp2_with fail
  go_ret
  exact⟨ret_b E.out,Hput.out⟩
 ·have E:=Lib.hid (D.out false (by simp;omega))
  clear D O
  go_enter Tryz.func133,Tryz.ntmps133
  go_wp2
  go_still_tail 13,(by kernel_rfl)
  repeat still_step
  try refine wpStill_nil ?_
  change wpList _ _ _ _ _ w.drew
  go_wp2_with fail
  go_ret
  exact⟨ret_b E.out,Hput.out⟩
theorem read_new (s p:ByteArray) (w0 w:World) (B:Nat) (L:List Int) (k:Nat) (hs:k<s.size) (hp:k<p.size) (hS:FS s p w0 B L false w) (hb:bt p k=48) (hX:L.length≤1000) :
  Calls Tryz.prog 133 #[.int .i64 k, .pointer (some ⟨B,0,none⟩), .pointer (some ⟨B+1,0,none⟩), .pointer (some ⟨B+3,0,none⟩), .pointer (some ⟨B+2,0,none⟩)] w fun e w'=>e = .returned (.bool (decide (okAt s p k)))∧FS s p w0 B (L ++ [bt s k-48]) true w':=by
 obtain⟨i0',hi,hz0,hz1,hz2⟩:=info_parts info_int
 have c0:=cell_of_one hS.cs
 have c1:=cell_of_one hS.cp
 have c3:=cell_of_one hS.ci
 obtain⟨v,hv,hown⟩:=hS.co
 have c2:=cell_of_one hv
 have O:=Lib.hid (show okAt s p k↔48≤(s[k].toNat:Int)∧(s[k].toNat:Int)≤57 by unfold okAt;rw[bt_of s k hs];exact⟨fun g=>g.1 hb,fun g=>⟨fun _=>g,fun h=>absurd hb h⟩⟩)
 have ev:bt s k-48=(s[k].toNat:Int)-48:=by rw[bt_of s k hs]
 rw[ev]
 rw[bt_of p k hp] at hb
 have bb:=byte_bd s[k]
 have i0:(k:Int)<(s.size:Int):=by omega
 have i1:(k:Int)<(p.size:Int):=by omega
 have D:=Lib.hid (show ∀ b:Bool,(b=true↔48≤(s[k].toNat:Int)∧(s[k].toNat:Int)≤57)→b=decide (okAt s p k) from fun b h=>by rw[Bool.eq_iff_iff,h,decide_eq_true_iff];exact O.out.symm)
 have i2:(L.length:Int)<(L.length:Int)+1:=by omega
 have i3:0≤(L.length:Int):=by omega
 have HS:=Lib.hid hS
 have HV:=Lib.hid hv
 have HO:=Lib.hid hown
 have hsz:=lt_of_block hS.ci
 clear hS hv hown ev
 by_cases d1:48≤(s[k].toNat:Int)
 all_goals
  have E:Hid (∃ r:Bool,r=(decide (48≤(s[k].toNat:Int)) && decide ((s[k].toNat:Int)≤57))∧r=decide (okAt s p k)):=Lib.hid ⟨_,rfl,D.out _ (by simp)⟩
  clear D O
  go_enter Tryz.func133,Tryz.ntmps133
  go_wp2_with (at_builtin;refine wpList_append_own _ rfl (.tmp 32) (.tmp 33) 29 rfl (B+4) 3 i0' (.int .i64 0) 1 8 Tryz.underlying29 hi hz0 hz1 hz2 rfl (by decide) _ _ _ rfl (HO.out.alloc _) ⟨w.heap.size,0,none⟩ 1 1 [.int .i64 0] rfl rfl (by intro j u hj;match j,hj with|0,hj=>(simp at hj;subst hj;simp[Addr.add])) (by intro u hu;simp at hu;subst hu;rfl) (by unfold maxLen;omega) (by omega) (by simp;omega) ?_)
  intro v' w1 hown' hgrow _
  obtain⟨g,cap,rfl,hg1,hg2⟩:=hown'.form (by omega)
  obtain⟨e1,e2,e3,e4,e5⟩:=HS.out.app_cells (v':=.slice (some ⟨g,0,none⟩) (L.length+1) cap) HV.out HO.out hgrow
  have S2:=(HS.out.app HV.out HO.out hown' hgrow).flag true
  have e6:=cell_of_one e5
  have e7:=cell_of_one S2.cs
  have z0:IntKind.i64.wrap 0=0:=rfl
  obtain⟨hn,ce,hf,hgb,hput⟩:=S2.drew.put e5 ((s[k].toNat:Int)-48)
  have ce:(((w1.setCell ⟨B+2,0,none⟩ (.slice (some ⟨g,0,none⟩) (L.length+1) cap)).setCell ⟨B+3,0,none⟩ (.bool true))).cell? ⟨g,L.length,none⟩=some (.int .i64 0):=ce
  have hf:(((w1.setCell ⟨B+2,0,none⟩ (.slice (some ⟨g,0,none⟩) (L.length+1) cap)).setCell ⟨B+3,0,none⟩ (.bool true))).frozen? ⟨g,L.length,none⟩=false:=hf
  have Hput:=Lib.hid hput
  clear hown' hgrow hg1 hg2 S2 hput hn hgb e5
  go_wp2
  generalize ((w1.setCell ⟨B+2,0,none⟩ (.slice (some ⟨g,0,none⟩) (L.length+1) cap)).setCell ⟨B+3,0,none⟩ (.bool true))=W at *
  go_still_tail 13,(by kernel_rfl)
  repeat still_step
  try refine wpStill_nil ?_
  change wpList _ _ _ _ _ W.drew
  go_wp2_with fail
  go_ret
  obtain⟨r,hr1,hr2⟩:=E.out
  exact⟨ret_b (by rw[← hr2,hr1];simp[d1];try omega),Hput.out⟩
end Ap
namespace Ap
open Go.RowKit Lw

def FldPost (s p:ByteArray) (w:World) (e:Ending) (w':World):Prop:=Below w.heap.size w w' ∧
 ((likeP s p ∧ ∃ v,e = .returned (.tuple #[v, .bool true])∧w'.ownsRow (w.heap.size+4) 3 1 v (grpL s p s.size).length ((grpL s p s.size).map (Value.int .i64))) ∨
  (¬ likeP s p∧e = .returned (.tuple #[.slice none 0 0, .bool false])))
theorem read_any (s p:ByteArray) (w0 w:World) (B:Nat) (k:Nat) (hs:k<s.size) (hp:k<p.size) (hS:FS s p w0 B (grpL s p k) (ins p k) w) (hl:likeTo s p k) (hr:runAt p k≤8) (hk:k≤900) :
  Calls Tryz.prog 133 #[.int .i64 k, .pointer (some ⟨B,0,none⟩), .pointer (some ⟨B+1,0,none⟩), .pointer (some ⟨B+3,0,none⟩), .pointer (some ⟨B+2,0,none⟩)] w fun e w'=>e = .returned (.bool (decide (okAt s p k)))∧FS s p w0 B (grpL s p (k+1)) (ins p (k+1)) w':=by
 have gl:=grp_len s p k
 by_cases hb:bt p k=48
 ·have hi:ins p (k+1)=true:=decide_eq_true hb
  rw[hi]
  cases hc:ins p k with
  | false =>
   rw[hc] at hS
   rw[grp_new hb hc]
   exact read_new s p w0 w B (grpL s p k) k hs hp hS hb (by omega)
  | true =>
   rw[hc] at hS
   obtain⟨X,v,e,h0,h1,_⟩:=grp_last s p k hl hc
   rw[grp_on hb hc e]
   rw[e] at hS gl
   have h8:(10:Int) ^ runAt p k≤100000000:=by
    have:∀ r:Nat,r≤8→(10:Int) ^ r≤100000000:=by decide
    exact this _ hr
   exact read_on s p w0 w B X v k hs hp hS hb h0 (by omega) (by simp at gl;omega)
 ·have hi:ins p (k+1)=false:=decide_eq_false hb
  rw[hi,grp_skip hb]
  exact read_sep s p w0 w B (grpL s p k) (ins p k) k hs hp hS hb
theorem fields_any (s p:ByteArray) (w:World) (hs:p.size≤100) (hz:s.size≤maxLen) (hr:∀ k,k<p.size→runAt p k≤8) :
  Calls Tryz.prog 84 #[.string s, .string p] w (FldPost s p w):=by
 by_cases hn:s.size=p.size
 ·have i0:((s.size:Int) != (p.size:Int))=false:=by simp;omega
  have S0:FS s p w w.heap.size [] false ((((w.alloc (.cells #[.string s] 9)).alloc (.cells #[.string p] 9)).alloc (.cells #[.slice none 0 0] 29)).alloc (.cells #[.bool false] 4)):=by
   have z1:(w.alloc (.cells #[.string s] 9)).heap.size=w.heap.size+1:=by simp
   have z2:((w.alloc (.cells #[.string s] 9)).alloc (.cells #[.string p] 9)).heap.size=w.heap.size+2:=by simp
   have z3:(((w.alloc (.cells #[.string s] 9)).alloc (.cells #[.string p] 9)).alloc (.cells #[.slice none 0 0] 29)).heap.size=w.heap.size+3:=by simp
   have n0:=heap_alloc_new w (.cells #[.string s] 9)
   have n1:=heap_alloc_new (w.alloc (.cells #[.string s] 9)) (.cells #[.string p] 9)
   have n2:=heap_alloc_new ((w.alloc (.cells #[.string s] 9)).alloc (.cells #[.string p] 9)) (.cells #[.slice none 0 0] 29)
   have n3:=heap_alloc_new (((w.alloc (.cells #[.string s] 9)).alloc (.cells #[.string p] 9)).alloc (.cells #[.slice none 0 0] 29)) (.cells #[.bool false] 4)
   rw[z1] at n1
   rw[z2] at n2
   rw[z3] at n3
   refine⟨?_,?_,⟨.slice none 0 0,?_,World.ownsRow_nil _ _ _ _⟩,n3,?_⟩
   ·rw[heap_alloc_old _ _ (by omega),heap_alloc_old _ _ (by omega),heap_alloc_old _ _ (by omega)];exact n0
   ·rw[heap_alloc_old _ _ (by omega),heap_alloc_old _ _ (by omega)];exact n1
   ·rw[heap_alloc_old _ _ (by omega)];exact n2
   ·exact((((Below.refl _ _).alloc (Nat.le_refl _) _).alloc (by omega) _).alloc (by omega) _).alloc (by omega) _
  have H0:=Lib.hid S0
  clear S0
  go_enter Tryz.func84,Tryz.ntmps84
  go_wp2_with fail
  go_loopw [18] (fun i wr=>∃ k:Nat,k≤s.size∧i = .int .i64 k∧FS s p w w.heap.size (grpL s p k) (ins p k) wr∧Hid (likeTo s p k)) (fun i _=>s.size-(intOf i).toNat)
  case atStart=>exact⟨0,Nat.zero_le _,rfl,H0.out,Lib.hid fun k hk=>absurd hk (by omega)⟩
  case round =>
   obtain⟨k,hk,rfl,S1,D⟩:=hrel
   by_cases hlt:k<s.size
   ·have i1:(k:Int)<(s.size:Int):=by omega
    have S2:=Lib.hid S1
    clear S1
    go_wp2_with fail
    refine(read_any s p w _ w.heap.size k hlt (by omega) S2.out D.out (hr k (by omega)) (by omega)).mono ?_
    rintro e w2 ⟨rfl,S3⟩
    have S4:=Lib.hid S3
    clear S3
    by_cases ho:okAt s p k
    ·have D2:=Lib.hid (likeTo_s D.out ho)
     rw[decide_eq_true ho]
     go_wp2_with fail
     go_roundw
     case rel=>exact⟨k+1,by omega,by go_num,S4.out,D2⟩
     case measure=>simp[intOf];omega
    ·have N:=Lib.hid (show ¬ likeP s p from fun g=>ho (g.2 k hlt))
     rw[decide_eq_false ho]
     clear ho
     go_wp2_with fail
     go_ret2
     exact⟨S4.out.below,Or.inr ⟨N.out,rfl⟩⟩
   ·obtain rfl:k=s.size:=by omega
    obtain⟨v,hv,hown⟩:=S1.co
    have c2:=cell_of_one hv
    have Z:=Lib.hid (And.intro S1.below hown)
    clear S1 hv hown
    go_wp2_with fail
    go_ret2
    exact⟨Z.out.1,Or.inl ⟨⟨hn,D.out⟩,v,rfl,Z.out.2⟩⟩
 ·have i0:((s.size:Int) != (p.size:Int))=true:=by simp;omega
  have hno:¬ likeP s p:=fun g=>hn g.1
  go_enter Tryz.func84,Tryz.ntmps84
  go_wp2_with fail
  go_ret2
  exact⟨((Below.refl _ _).alloc (Nat.le_refl _) _).alloc (by simp) _,Or.inr ⟨hno,rfl⟩⟩
end Ap
end Go.Proofs.YtdnogmanbdgadaaGreatDoor
